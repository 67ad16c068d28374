/- SpecBack: its plain law and its walk. -/
import Derived.Test.YtldpmeaibkpojaaRB8
import Derived.Test.YtldpmeaibkpojaaRSpP
import Derived.Test.YtldpmeaibkpojaaRSpO
namespace Go.Proofs.YtldpmeaibkpojaaR
open Go.RowKit Go.Proofs.YtldpmeaibkpojaaR Go.Proofs.YtldpmeaibkpojaaR.Ext Go.Proofs.YtldpmeaibkpojaaR.B Go.Proofs.YtldpmeaibkpojaaR.PureS Go.Proofs.YtldpmeaibkpojaaR.Sp Go.Proofs.YtldpmeaibkpojaaRW.PrintWords Go.Proofs.YtldpmeaibkpojaaRW.PrintLast
set_option linter.unusedVariables false
set_option linter.unusedSimpArgs false

theorem back_map (l : List TS) : (l.map ofTS).map toTS = l := by
  rw [List.map_map]
  have : (toTS ∘ ofTS) = id := by funext x; rfl
  rw [this, List.map_id]
theorem spOf_of (s : SP) : spOf s.id s.cpu s.mem s.disk s.ports (s.tasks.map ofTS) = s := by unfold spOf; rw [back_map]
theorem back_lens {s : SP} (h : okS s = true) : s.ports.length ≤ 8 ∧ s.tasks.length ≤ 4 := by
  obtain ⟨_, _, _, _, ⟨h1, _⟩, h2⟩ := okS_gS h
  have h2 := h2.1
  omega
theorem j1_true (S : List UInt8) (hS : S.length ≤ 400) (k : Nat) : sacristanlaw13_SpecBack.j1 (k + 30) (Go.Proofs.YtldpmeaibkpojaaR.Ext.mkB S) = some true := by
  simp only [sacristanlaw13_SpecBack.j1]
  rw [dec_eq, Option.bind_some]
  cases hd : decS S with
  | none =>
    have e : decR S = (zeroS, [], 4) := by unfold decR; rw [hd]
    rw [e, show decT (zeroS, [], 4) = (0, 0, 0, 0, [], ([] : List TS).map ofTS, Go.Proofs.YtldpmeaibkpojaaR.Ext.mkB [], 4) from rfl]
    simp only []
    rw [if_neg (by decide), if_pos trivial, if_pos (by rw [toList_mkB])]
    have q := eqSpec (k + 29) 0 0 0 0 0 0 0 0 [] [] ([].map ofTS) [] (by simp) (by simp) (by simp) (by simp)
    rw [q, Option.bind_some]
    rfl
  | some x =>
    obtain ⟨s, r⟩ := x
    obtain ⟨o, he⟩ := (decS_codec S s r).1 hd
    have e : decR S = (s, r, 0) := by unfold decR; rw [hd]
    have hx : specE s = 0 := okS_E.1 o
    have ex : encR s = encS s := by unfold encR; rw [if_pos hx]
    have hl := encS_length (okS_gS o)
    have hr : r.length ≤ 400 := by
      have := congrArg List.length he
      rw [List.length_append] at this
      omega
    rw [e, show decT (s, r, 0) = (s.id, s.cpu, s.mem, s.disk, s.ports, s.tasks.map ofTS, Go.Proofs.YtldpmeaibkpojaaR.Ext.mkB r, 0) from rfl]
    simp only []
    rw [if_pos trivial]
    unfold spec_Encode.f
    rw [Option.bind_some, spOf_of, ex]
    rw [if_pos hx, if_pos (by rw [sz_mkB, sz_mkB]; omega), app_mkB, toList_mkB, toList_mkB, if_pos he]
    rfl
theorem j0_true (S : List UInt8) (hS : S.length ≤ 400) (k : Nat) (a b c d : Int) (l : List Int) (m : List (S49)) (hl : l.length ≤ 20) (hm : m.length ≤ 10) :
    sacristanlaw13_SpecBack.j0 (k + 31) (Go.Proofs.YtldpmeaibkpojaaR.Ext.mkB S) (Go.Proofs.YtldpmeaibkpojaaR.Ext.mkB (encR (spOf a b c d l m))) (specE (spOf a b c d l m)) false a b c d l m = some true := by
  simp only [sacristanlaw13_SpecBack.j0]
  rw [if_neg (by simp)]
  by_cases hx : specE (spOf a b c d l m) = 0
  · have o := okS_E.2 hx
    have ex : encR (spOf a b c d l m) = encS (spOf a b c d l m) := by unfold encR; rw [if_pos hx]
    have hle := encS_length (okS_gS o)
    rw [if_pos hx, ex, if_pos (by rw [sz_mkB, sz_mkB]; omega), app_mkB, dec_eq, dec_some o rfl, Option.bind_some, show ∀ (y : SP) (r : List UInt8), decT (y, r, 0) = (y.id, y.cpu, y.mem, y.disk, y.ports, y.tasks.map ofTS, Go.Proofs.YtldpmeaibkpojaaR.Ext.mkB r, 0) from fun _ _ => rfl]
    simp only []
    rw [if_pos trivial, if_pos trivial]
    have hb := back_lens o
    have q := eqSpec (k + 30) a b c d (spOf a b c d l m).id (spOf a b c d l m).cpu (spOf a b c d l m).mem (spOf a b c d l m).disk l (spOf a b c d l m).ports m ((spOf a b c d l m).tasks.map ofTS) (by omega) (by omega) (by omega) (by omega)
    rw [q, spOf_of, Option.bind_some, if_pos (by simp), sz_mkB, if_neg (by omega)]
    exact j1_true S hS k
  · rw [if_neg hx]
    exact j1_true S hS k
theorem specBack_law (a b c d : Int) (l : List Int) (m : List (S49)) (s : ByteArray) : sacristanlaw13_SpecBack.f 31 a b c d l m s = some true := by
  obtain ⟨t, rfl⟩ : ∃ t, s = Go.Proofs.YtldpmeaibkpojaaR.Ext.mkB t := ⟨s.data.toList, (mkB_data s).symm⟩
  unfold sacristanlaw13_SpecBack.f
  rw [few, sz_mkB]
  have e1 : mn (t.length : Int) 400 = ((min t.length 400 : Nat) : Int) := mn_nat t.length 400
  simp only [Option.bind_some]
  rw [e1, if_pos (by omega), if_pos (by omega), Int.toNat_natCast, ext_mkB, List.drop_zero]
  have hS : (t.take (min t.length 400)).length ≤ 400 := by rw [List.length_take]; omega
  generalize t.take (min t.length 400) = S at hS
  have hl : (l.take 20).length ≤ 20 := by rw [List.length_take]; omega
  have hm : (m.take 10).length ≤ 10 := by rw [List.length_take]; omega
  have q := j0_true S hS 0 a b c d (l.take 20) (m.take 10) hl hm
  unfold spec_Encode.f spec_Check.f
  simp only [Option.bind_some]
  rw [if_pos trivial]
  by_cases hx : specE (spOf a b c d (l.take 20) (m.take 10)) = 0
  · rw [if_pos hx]
    exact q
  · rw [if_neg hx]
    have ex : encR (spOf a b c d (l.take 20) (m.take 10)) = [] := by unfold encR; rw [if_neg hx]
    have e2 : ((Go.Proofs.YtldpmeaibkpojaaR.Ext.mkB (encR (spOf a b c d (l.take 20) (m.take 10)))).toList != ([] : List UInt8)) = false := by rw [ex, toList_mkB]; rfl
    rw [e2]
    exact q
set_option maxHeartbeats 400000 in
theorem walk_SpecBack (W : World) (a b c d : Int) (A4 : Option Addr) (c4 : Nat) (l4 : List Int) (A5 : Option Addr) (c5 : Nat) (l5 : List E49) (h0 : (Lit.int .i64 a).wf = true) (h1 : (Lit.int .i64 b).wf = true) (h2 : (Lit.int .i64 c).wf = true) (h3 : (Lit.int .i64 d).wf = true) (h4 : SL24 W A4 c4 l4) (h5 : SL25 W A5 c5 l5) (s : ByteArray) (hs : s.size ≤ 140737488351232) :
    Calls Try.prog 5 #[.agg #[.int .i64 a, .int .i64 b, .int .i64 c, .int .i64 d, .slice A4 l4.length c4, .slice A5 l5.length c5], .string s] W fun e w' => e = .returned (.bool true) ∧ Below W.heap.size W w' := by
  have q1 := readsT h5
  have q := sacristanlaw13_SpecBack.calls 31 a b c d A4 c4 l4 A5 c5 (l5.map toE) s true W (readsI h4).1 (readsI h4).2 q1.1 q1.2 (specBack_law _ _ _ _ _ _ _) rfl
  rw [List.length_map] at q
  exact q
end Go.Proofs.YtldpmeaibkpojaaR
