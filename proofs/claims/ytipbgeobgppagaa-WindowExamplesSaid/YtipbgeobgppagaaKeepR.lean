/- window.Keep once more: what it hands back is a row of its own. -/
import Derived.Test.YtipbgeobgppagaaV1
import Derived.Test.YtipbgeobgppagaaExt
namespace Go.Proofs.Ytipbgeobgppagaa.V
open Go.RowKit Go.Proofs.Ytipbgeobgppagaa.Ext Go.Proofs.YtipbgeobgppagaaW.PrintWords Go.Proofs.YtipbgeobgppagaaW.PrintLast Go.Proofs.YtipbgeobgppagaaW.PrintMore
set_option linter.unusedVariables false
set_option linter.unusedSimpArgs false

set_option maxHeartbeats 2000000 in
theorem window_Keep.callsR (k : Nat) (A0 : Option Addr) (c0 : Nat) (l0 : List Int) (a1 : Int) (a2 : Int) (r1 : List Int) (r2 : Int) (w : World) (hr0 : Kd.C (Kd.int .i64) w A0 l0.length l0) (hc0 : l0.length ≤ c0) (h : window_Keep.f k l0 a1 a2 = some (r1, r2)) :
    Calls Try.prog 18 #[.slice A0 l0.length c0, .int .i64 a1, .int .i64 a2] w fun e w' => ∃ (A : Option Addr) (c : Nat), e = .returned (.tuple #[.slice A r1.length r1.length, .int .i64 r2]) ∧ Kd.R (Kd.int .i64) 3 w' w.heap.size (fun _ => True) (.slice A r1.length c) r1 ∧ Below w.heap.size w w' := by
  unfold window_Keep.f at h
  obtain ⟨t, ht, h⟩ := Option.bind_eq_some_iff.1 h
  have HT := Aside0.mk ht
  have HR := Aside0.mk hr0
  have HC := Aside0.mk hc0
  clear ht hr0 hc0
  by_cases h0 : t = 0
  · subst h0
    rw [if_pos rfl] at h
    split at h
    case isFalse => cases h
    case isTrue hl =>
    have h := Option.some.inj h
    simp only [Prod.mk.injEq] at h
    obtain ⟨rfl, rfl⟩ := h
    have HL := Aside0.mk hl
    have hlen : l0.length ≤ 9223372036854775807 := (Kd.reads_of_C (d := (0 : Int)) HR.out).2.1
    obtain ⟨i0, hinf⟩ : ∃ i, Try.prog.info? 3 = some i := by
      have h := info_int
      cases e : Try.prog.info? 3 with
      | none => rw [e] at h; cases h
      | some i => exact ⟨i, rfl⟩
    have hisz : i0.size = 1 := by
      have h := info_int
      rw [hinf] at h
      simp at h
      exact h.2.1
    have hup := upTo_le (wrap64 (a2 - a1)) l0
    have hup2 : upTo (wrap64 (a2 - a1)) l0 = l0.length ∨ upTo (wrap64 (a2 - a1)) l0 < l0.length := by omega
    generalize hm : min (upTo (wrap64 (a2 - a1)) l0) (l0.length - 1) = m
    have hmle : m ≤ l0.length := by omega
    have HM := Lib.hid hm
    have HF := cut_from 22 3 .i64 Try.underlying22 hinf 1 hisz A0 l0.length c0 (m : Int) (by omega) (by omega)
    simp only [Int.toNat_natCast] at HF
    have HFH := Lib.hid HF
    have HCC := Lib.hid (fun A n c hc => cut_cap 22 3 Try.underlying22 hinf A n c hc)
    clear HF hm hup2
    go_enter Try.func18, Try.ntmps18
    go_wp2_with fail
    refine (window_tick.calls k A0 c0 l0 a1 a2 0 _ HR.out HC.out HT.out).mono ?_
    rintro e w1 ⟨rfl, ⟨nd, rfl⟩⟩
    go_upto_region 4 with fail
    go_cut [9] (fun v9 wc => v9 = .int .i64 (m : Int) ∧ ∃ nd2, wc = w.drewN nd2)
    case first =>
      go_wp2_with fail
      refine (window_first.calls A0 c0 l0 (wrap64 (a2 - a1)) _ _ (Kd.C_drewN HR.out nd) HC.out rfl).mono ?_
      rintro e w1 ⟨rfl, ⟨nd2, rfl⟩⟩
      generalize hu : upTo (wrap64 (a2 - a1)) l0 = u at *
      clear hu
      go_wp2_with fail
      all_goals first | (exfalso; omega) | skip
      all_goals (
        go_meet
        case rel => exact ⟨by have := HM.out; congr 1; omega, nd + nd2, by simp⟩)
    case rest =>
      obtain ⟨rfl, nd2, rfl⟩ := hcut
      have HF := HFH.out
      have hC1 := Kd.C_drop (Kd.C_drewN HR.out nd2) hmle HC.out
      rw [show m * (Kd.int .i64).sz = m from Nat.mul_one m] at hC1
      simp only [Nat.mul_one] at HF
      have hdl : (l0.drop m).length = l0.length - m := by simp
      rw [← hdl] at HF
      generalize hA1 : (if c0 = m then A0 else A0.map fun x => x.add m) = A1 at HF hC1
      have hLs : (l0.drop m).length < 17592186044416 := by have := HL.out; omega
      have hcc : (l0.drop m).length ≤ c0 - m := by have := HC.out; omega
      generalize hLL : l0.drop m = L at HF hC1 hLs hcc
      have HLL := Aside0.mk hLL
      clear hLL
      clear HFH hA1 hdl
      have HC1 := Aside0.mk hC1
      have HLs := Aside0.mk hLs
      have HCL := Aside0.mk hcc
      clear hC1 hLs hcc
      go_upto_region 6 with (at_builtin; refine Kd.R_append_row (Value.int .i64) (0 : Int) w.heap.size rfl _ _ 22 3 (.int .i64 0) 8 rfl Try.underlying22 info_int rfl (by decide) _ [] L A1 _ (c0 - m) (fun _ => True) rfl rfl (fun _ _ => trivial) (Kd.R_nil _ _ _ _ _) HC1.out (pw_below_drewN (Below.refl _ _) nd2) (Nat.le_refl _) (by have := HLs.out; simp; omega) ?_; intro v1 w1 hR hB hg hat)
      rw [List.nil_append] at hR
      clear hg hat
      obtain ⟨A2, c2, rfl, hl2, hC2⟩ := Kd.R_reads hR
      have hcp := HCC.out A2 L.length c2 hl2
      have HRR := Aside0.mk hR
      have HBB := Aside0.mk hB
      clear hR hB hC2 hl2
      go_wp2
      go_returns
      rw [HLL.out]
      exact ⟨_, _, rfl, HRR.out, HBB.out⟩
  · rw [if_neg h0] at h
    have h := Option.some.inj h
    simp only [Prod.mk.injEq] at h
    obtain ⟨rfl, rfl⟩ := h
    have h0b : (t != 0) = true := bne_iff_ne.mpr h0
    go_enter Try.func18, Try.ntmps18
    go_wp2_with fail
    refine (window_tick.calls k A0 c0 l0 a1 a2 t _ HR.out HC.out HT.out).mono ?_
    rintro e w1 ⟨rfl, ⟨nd, rfl⟩⟩
    go_wp2
    go_returns
    exact ⟨none, 0, rfl, Kd.R_nil _ _ _ _ _, pw_below_drewN (Below.refl _ _) nd⟩
end Go.Proofs.Ytipbgeobgppagaa.V
