/- Texts of this session, merged (wip/gen/shake.py). -/
import Derived.Laws.MakeOwn
import Derived.Laws.OwnMore
import Derived.Test.YtkhcdichdnbcmaaRRr3
import Derived.Test.YtkhcdichdnbcmaaRRr4
section
namespace Go.Proofs.YtkhcdichdnbcmaaR
open Go.RowKit Go.Proofs.YtkhcdichdnbcmaaR Go.Proofs.YtkhcdichdnbcmaaR.Ext Go.Proofs.YtkhcdichdnbcmaaR.C Go.Proofs.YtkhcdichdnbcmaaR.Sp Go.Proofs.YtkhcdichdnbcmaaRW.PrintWords Go.Proofs.YtkhcdichdnbcmaaRW.PrintLast
set_option linter.unusedVariables false
set_option linter.unusedSimpArgs false
theorem toList_mkB (l : List UInt8) : (YtkhcdichdnbcmaaR.Ext.mkB l).toList = l := by rw [ByteArray.toList_eq]; rfl
theorem dec_s {w0 w : World} {L : List HP} (bs : List UInt8) (x1 x2 x3 x4 : Int) (ps : List Int) (ts : List Sp.TS) (rest : List UInt8) (er : Int) (hx : decR bs = (⟨x1, x2, x3, x4, ps, ts⟩, rest, er)) (h : St w0 w L) : Calls Try.prog 44 #[.string (YtkhcdichdnbcmaaR.Ext.mkB bs)] w fun e w' => ∃ A B c d n m, e = .returned (.tuple #[.agg #[.int .i64 x1, .int .i64 x2, .int .i64 x3, .int .i64 x4, .slice A n c, .slice B m d], .string (YtkhcdichdnbcmaaR.Ext.mkB rest), .int .i64 er]) ∧ St w0 w' (RI (.slice A n c) ps :: RT (.slice B m d) (ts.map ofTS) :: L) := by
 have q := decode_c bs w
 rw [hx] at q
 refine q.mono ?_
 rintro e w' ⟨v4, v5, rfl, h4, h5, hb⟩
 obtain ⟨A, n, c, rfl⟩ := R_slice3 h4
 obtain ⟨B, m, d, rfl⟩ := R_slice3 h5
 exact ⟨A, B, c, d, n, m, rfl, h.rows2 (flat_int _) kX_flat (by decide) hb h4 (k_of h5)⟩
theorem back_map (l : List TS) : (l.map ofTS).map toTS = l := by
 rw [List.map_map]
 have : (toTS ∘ ofTS) = id := by funext x; rfl
 rw [this, List.map_id]
theorem spOf_of (s : SP) : spOf s.id s.cpu s.mem s.disk s.ports (s.tasks.map ofTS) = s := by unfold spOf; rw [back_map]
def Dec9 (w0 : World) (L : List HP) (x : CM) (er : Int) (ee : Ending) (w' : World) : Prop := ∃ A B n m p q, ee = .returned (.tuple #[.agg #[.int .u8 x.kind, .int .i64 x.epoch, .int .i64 x.spec.id, .int .i64 x.spec.cpu, .int .i64 x.spec.mem, .int .i64 x.spec.disk, .slice A n p, .slice B m q, .int .i64 x.id], .int .i64 er]) ∧ St w0 w' (RI (.slice A n p) x.spec.ports :: RT (.slice B m q) (x.spec.tasks.map ofTS) :: L)
theorem Dec9.zero {w0 w' : World} {L : List HP} {er : Int} {ee : Ending} (h : ee = .returned (.tuple #[.agg #[.int .u8 0, .int .i64 0, .int .i64 0, .int .i64 0, .int .i64 0, .int .i64 0, .slice none 0 0, .slice none 0 0, .int .i64 0], .int .i64 er]) ∧ St w0 w' L) : Dec9 w0 L zCM er ee w' := by
 obtain ⟨rfl, s⟩ := h
 exact ⟨none, none, 0, 0, 0, 0, rfl, St.rowKNil (flat_int _) (St.rowKNil kX_flat s)⟩
end Go.Proofs.YtkhcdichdnbcmaaR
end
section
namespace Go.Proofs.YtkhcdichdnbcmaaR.PureC
open Go.RowKit Go.Proofs.YtkhcdichdnbcmaaR Go.Proofs.YtkhcdichdnbcmaaR.Ext Go.Proofs.YtkhcdichdnbcmaaR.C Go.Proofs.YtkhcdichdnbcmaaRW.PrintWords Go.Proofs.YtkhcdichdnbcmaaRW.PrintLast Go.Proofs.YtkhcdichdnbcmaaRW.PrintMore
open Go.Proofs.YtkhcdichdnbcmaaR.Sp
set_option linter.unusedVariables false
set_option linter.unusedSimpArgs false
theorem w1 {i : Nat} (h : i ≤ 1000) : wrap64 ((i : Int) + 1) = ((i + 1 : Nat) : Int) := by unfold wrap64; omega
theorem rd_at (l : List Int) (i : Nat) (h : i < l.length) : rd l (i : Int) = l[i] := by simp [rd, h]
theorem rdT_at (l : List (S90)) (i : Nat) (h : i < l.length) : rd_T90 l (i : Int) = l[i] := by simp [rd_T90, h]
theorem drop_y {α : Type} (xs ys : List α) (i : Nat) (hx : i < xs.length) (hy : i < ys.length) (h : xs[i] = ys[i]) : (xs.drop i = ys.drop i) ↔ (xs.drop (i + 1) = ys.drop (i + 1)) := by
 rw [List.drop_eq_getElem_cons hx, List.drop_eq_getElem_cons hy, List.cons.injEq]; exact ⟨fun q => q.2, fun q => ⟨h, q⟩⟩
theorem drop_n {α : Type} (xs ys : List α) (i : Nat) (hx : i < xs.length) (hy : i < ys.length) (h : ¬ xs[i] = ys[i]) : ¬ (xs.drop i = ys.drop i) := by
 rw [List.drop_eq_getElem_cons hx, List.drop_eq_getElem_cons hy, List.cons.injEq]; exact fun q => h q.1
theorem eqInts_l0 (xs ys : List Int) (hl : xs.length = ys.length) (hm : xs.length ≤ 1000) (d : Nat) : ∀ k i : Nat, i + d = xs.length → d < k → sacristankit_EqualInts.l0 k xs ys i = some (decide (xs.drop i = ys.drop i)) := by
 induction d with
 | zero =>
  intro k i hi hk
  obtain ⟨k, rfl⟩ : ∃ m, k = m + 1 := ⟨k - 1, by omega⟩
  simp only [sacristankit_EqualInts.l0]
  rw [if_neg (by omega), List.drop_eq_nil_of_le (by omega), List.drop_eq_nil_of_le (by omega)]
  simp
 | succ d ih =>
  intro k i hi hk
  obtain ⟨k, rfl⟩ : ∃ m, k = m + 1 := ⟨k - 1, by omega⟩
  simp only [sacristankit_EqualInts.l0]
  rw [if_pos (by omega), if_pos (by omega), if_pos (by omega), rd_at xs i (by omega), rd_at ys i (by omega)]
  by_cases h : xs[i] = ys[i]
  ·rw [if_pos h, w1 (by omega), ih k (i + 1) (by omega) (by omega), decide_eq_decide.2 (drop_y xs ys i (by omega) (by omega) h)]
  ·rw [if_neg h, decide_eq_false (drop_n xs ys i (by omega) (by omega) h)]
theorem eqInts (k : Nat) (xs ys : List Int) (hm : xs.length ≤ 1000) (hk : xs.length < k) : sacristankit_EqualInts.f k xs ys = some (decide (xs = ys)) := by
 unfold sacristankit_EqualInts.f
 by_cases h : xs.length = ys.length
 ·rw [if_pos (by omega)]
  have := eqInts_l0 xs ys h hm xs.length k 0 (by omega) hk
  simpa using this
 ·rw [if_neg (by omega)]
  have : ¬ xs = ys := fun e => h (by rw [e])
  simp [this]
theorem cond_ne (x y : S90) : ((!(x.f0.f0 == y.f0.f0) || (!(x.f0.f1 == y.f0.f1) || (!(x.f0.f2 == y.f0.f2) || (!(x.f0.f3 == y.f0.f3) || (!(x.f0.f4 == y.f0.f4)))))) || (!(x.f1 == y.f1))) = !decide (toTS x = toTS y) := by
 rw [Bool.eq_iff_iff]
 simp [toTS, -Bool.not_eq_eq_eq_not]
 grind
theorem eqTs_l0 (xs ys : List (S90)) (hl : xs.length = ys.length) (hm : xs.length ≤ 1000) (d : Nat) : ∀ k i : Nat, i + d = xs.length → d < k → sacristankit_EqualTaskSpecs.l0 k xs ys i = some (decide ((xs.drop i).map toTS = (ys.drop i).map toTS)) := by
 induction d with
 | zero =>
  intro k i hi hk
  obtain ⟨k, rfl⟩ : ∃ m, k = m + 1 := ⟨k - 1, by omega⟩
  simp only [sacristankit_EqualTaskSpecs.l0]
  rw [if_neg (by omega), List.drop_eq_nil_of_le (by omega), List.drop_eq_nil_of_le (by omega)]
  simp
 | succ d ih =>
  intro k i hi hk
  obtain ⟨k, rfl⟩ : ∃ m, k = m + 1 := ⟨k - 1, by omega⟩
  simp only [sacristankit_EqualTaskSpecs.l0]
  rw [if_pos (by omega), if_pos (by omega), if_pos (by omega), cond_ne, rdT_at xs i (by omega), rdT_at ys i (by omega)]
  by_cases h : toTS xs[i] = toTS ys[i]
  ·rw [if_neg (by simp [h]), w1 (by omega), ih k (i + 1) (by omega) (by omega), List.map_drop, List.map_drop, List.map_drop, List.map_drop, decide_eq_decide.2 (drop_y (xs.map toTS) (ys.map toTS) i (by rw [List.length_map]; omega) (by rw [List.length_map]; omega) (by simpa using h))]
  ·rw [if_pos (by simp [h]), List.map_drop, List.map_drop, decide_eq_false (drop_n (xs.map toTS) (ys.map toTS) i (by rw [List.length_map]; omega) (by rw [List.length_map]; omega) (by simpa using h))]
theorem eqTs (k : Nat) (xs ys : List (S90)) (hm : xs.length ≤ 1000) (hk : xs.length < k) : sacristankit_EqualTaskSpecs.f k xs ys = some (decide (xs.map toTS = ys.map toTS)) := by
 unfold sacristankit_EqualTaskSpecs.f
 by_cases h : xs.length = ys.length
 ·rw [if_pos (by omega)]
  have := eqTs_l0 xs ys h hm xs.length k 0 (by omega) hk
  simpa using this
 ·rw [if_neg (by omega)]
  have : ¬ xs.map toTS = ys.map toTS := fun e => h (by have := congrArg List.length e; simpa using this)
  simp [this]
theorem spOf_eq (a b c d a' b' c' d' : Int) (l l' : List Int) (m m' : List (S90)) : (spOf a b c d l m = spOf a' b' c' d' l' m') ↔ a = a' ∧ (b = b' ∧ c = c' ∧ d = d') ∧ l = l' ∧ m.map toTS = m'.map toTS := by
 unfold spOf
 simp only [SP.mk.injEq]
 constructor
 ·rintro ⟨h1, h2, h3, h4, h5, h6⟩; exact ⟨h1, ⟨h2, h3, h4⟩, h5, h6⟩
 ·rintro ⟨h1, ⟨h2, h3, h4⟩, h5, h6⟩; exact ⟨h1, h2, h3, h4, h5, h6⟩
theorem eqSpec (k : Nat) (a b c d a' b' c' d' : Int) (l l' : List Int) (m m' : List (S90)) (h1 : l.length ≤ 1000) (h2 : m.length ≤ 1000) (k1 : l.length < k) (k2 : m.length < k) :
  sacristankit_EqualSpec.f k a b c d l m a' b' c' d' l' m' = some (decide (spOf a b c d l m = spOf a' b' c' d' l' m')) := by
 unfold sacristankit_EqualSpec.f
 rw [eqInts k l l' h1 k1, eqTs k m m' h2 k2]
 simp only [Option.bind_some]
 by_cases q1 : a = a'
 ·by_cases q2 : (b == b' && (c == c' && (d == d'))) = true
  ·rw [if_pos q1, if_pos q2]
   simp only [Bool.and_eq_true, beq_iff_eq] at q2
   by_cases q3 : l = l'
   ·simp [spOf_eq, q1, q2, q3]
   ·simp [spOf_eq, q1, q2, q3]
  ·rw [if_pos q1, if_neg q2]
   simp only [Bool.and_eq_true, beq_iff_eq] at q2
   have : ¬ spOf a b c d l m = spOf a' b' c' d' l' m' := fun e => q2 ((spOf_eq _ _ _ _ _ _ _ _ _ _ _ _).1 e).2.1
   simp [this]
 ·rw [if_neg q1]
  have : ¬ spOf a b c d l m = spOf a' b' c' d' l' m' := fun e => q1 ((spOf_eq _ _ _ _ _ _ _ _ _ _ _ _).1 e).1
  simp [this]
end Go.Proofs.YtkhcdichdnbcmaaR.PureC
namespace Go.Proofs.YtkhcdichdnbcmaaR
open Go.RowKit Go.Proofs.YtkhcdichdnbcmaaR Go.Proofs.YtkhcdichdnbcmaaR.Ext Go.Proofs.YtkhcdichdnbcmaaR.C Go.Proofs.YtkhcdichdnbcmaaR.Sp Go.Proofs.YtkhcdichdnbcmaaRW.PrintWords Go.Proofs.YtkhcdichdnbcmaaRW.PrintLast
set_option linter.unusedVariables false
set_option linter.unusedSimpArgs false
end Go.Proofs.YtkhcdichdnbcmaaR
end
section
namespace Go.Proofs.YtkhcdichdnbcmaaR
end Go.Proofs.YtkhcdichdnbcmaaR
end
