/- Texts of this session, merged (wip/gen/shake.py). -/
import Derived.Test.YtkhcdichdnbcmaaROpen
import Derived.Test.YtkhcdichdnbcmaaRRk5
import Derived.Test.YtkhcdichdnbcmaaRRk13
import Derived.Test.YtkhcdichdnbcmaaRRk14
section
namespace Go.Proofs.YtkhcdichdnbcmaaR
open Go.RowKit Go.Proofs.YtkhcdichdnbcmaaR Go.Proofs.YtkhcdichdnbcmaaR.Ext Go.Proofs.YtkhcdichdnbcmaaR.C Go.Proofs.YtkhcdichdnbcmaaRW.PrintWords Go.Proofs.YtkhcdichdnbcmaaRW.PrintLast
set_option linter.unusedVariables false
set_option linter.unusedSimpArgs false
def toE (x : E90) : S90 := ⟨⟨x.f0, x.f1, x.f2, x.f3, x.f4⟩, x.f5⟩
theorem readsI {w : World} {A : Option Addr} {cap : Nat} {l : List Int} (h : SL24 w A cap l) : Kd.C (Kd.int .i64) w A l.length l ∧ l.length ≤ cap := by
 obtain ⟨h1, h2, h3⟩ := h
 have hm : maxLen ≤ 9223372036854775807 := by decide
 refine ⟨Kd.C_of_reads (d := (0 : Int)) ⟨rfl, by omega, fun hp => ?_⟩, h1⟩
 rcases h3 with rfl | ⟨b, off, rfl, hb, hc⟩
 ·simp at hp
 refine ⟨_, rfl, fun j hj => ?_⟩
 have ha : (Addr.mk b off none).add j = ⟨b, off + j, none⟩ := by unfold Addr.add; split <;> simp_all
 rw [ha]
 exact (hc j hj).1
theorem readsT {w : World} {A : Option Addr} {cap : Nat} {l : List E90} (h : SL25 w A cap l) : Kd.C k90 w A (l.map toE).length (l.map toE) ∧ (l.map toE).length ≤ cap := by
 obtain ⟨h1, h2, h3⟩ := h
 have hm : maxLen ≤ 9223372036854775807 := by decide
 refine ⟨⟨rfl, by rw [List.length_map]; omega, fun hp => ?_⟩, by rw [List.length_map]; exact h1⟩
 rw [List.length_map] at hp
 rcases h3 with rfl | ⟨b, off, rfl, hb, hc⟩
 ·simp at hp
 refine ⟨_, rfl, fun j p hj => ?_⟩
 obtain ⟨hl, rfl⟩ := List.getElem?_eq_some_iff.1 hj
 rw [List.length_map] at hl
 obtain ⟨c0, c1, _, c2, _, c3, _, c4, _, c5, _⟩ := hc j hl
 have hr : rdE90 l j = l[j] := by simp [rdE90, hl]
 rw [hr] at c0 c1 c2 c3 c4 c5
 have he : (l.map toE)[j] = toE l[j] := by simp
 refine ⟨[.bool (l[j]).f0, .int .i64 (l[j]).f1, .int .i64 (l[j]).f2, .int .i64 (l[j]).f3, .int .i64 (l[j]).f4, .int .i64 (l[j]).f5], rfl, ?_, fun i u hu => ?_⟩
 ·rw [he]; exact k90_mk w (toE l[j])
 ·have ha : ∀ n, (Addr.mk b off none).add n = ⟨b, off + n, none⟩ := fun n => by unfold Addr.add; split <;> simp_all
  show w.cell? ((Addr.mk b off none).add (j * 6 + i)) = _
  rw [ha, ← Nat.add_assoc]
  match i, hu with
  | 0, hu => injection hu with hu; subst hu; exact c0
  | 1, hu => injection hu with hu; subst hu; exact c1
  | 2, hu => injection hu with hu; subst hu; exact c2
  | 3, hu => injection hu with hu; subst hu; exact c3
  | 4, hu => injection hu with hu; subst hu; exact c4
  | 5, hu => injection hu with hu; subst hu; exact c5
  | i + 6, hu => simp at hu
end Go.Proofs.YtkhcdichdnbcmaaR
end
section
namespace Go.Proofs.YtkhcdichdnbcmaaR
open Go.RowKit Go.Proofs.YtkhcdichdnbcmaaR Go.Proofs.YtkhcdichdnbcmaaR.Ext Go.Proofs.YtkhcdichdnbcmaaR.C Go.Proofs.YtkhcdichdnbcmaaR.Sp Go.Proofs.YtkhcdichdnbcmaaRW.PrintWords Go.Proofs.YtkhcdichdnbcmaaRW.PrintLast
set_option linter.unusedVariables false
set_option linter.unusedSimpArgs false
theorem fwd_mapR (l : List TX) : (l.map toTS).map ofTS = l := by
 rw [List.map_map]
 have : (ofTS ∘ toTS) = id := by funext x; rfl
 rw [this, List.map_id]
theorem i64_of_wf {n : Int} (h : (Lit.int .i64 n).wf = true) : -9223372036854775808 ≤ n ∧ n ≤ 9223372036854775807 := by
 simp only [Lit.wf, Bool.and_eq_true, decide_eq_true_eq] at h
 exact h
theorem encRR_ok {c : RE} (h : recE c = 0) : encRR c = encRe c := by unfold encRR; rw [if_pos h]
theorem okRe_iff (c : RE) : okRe c = true ↔ recE c = 0 := by unfold okRe; exact decide_eq_true_iff
theorem dec_ownR (k e a b c d id task tick wait pid nonce code : Int) (ps : List Int) (ts : List TX) (hc : -9223372036854775808 ≤ code ∧ code ≤ 9223372036854775807) (h : recE ⟨k, e, spOf a b c d ps ts, id, task, tick, wait, pid, nonce, code⟩ = 0) (w0 W : World) (M : List HP) (s : St w0 W M) :
  Calls Try.prog 23 #[.string (YtkhcdichdnbcmaaR.Ext.mkB (encRR ⟨k, e, spOf a b c d ps ts, id, task, tick, wait, pid, nonce, code⟩))] W fun ee w' => ∃ A B n m p q, ee = .returned (.tuple #[.agg #[.int .u8 k, .int .i64 e, .int .i64 a, .int .i64 b, .int .i64 c, .int .i64 d, .slice A n p, .slice B m q, .int .i64 id, .int .i64 task, .int .i64 tick, .int .i64 wait, .int .i64 pid, .int .i64 nonce, .int .i64 code], .int .i64 0]) ∧ St w0 w' (RI (.slice A n p) ps :: RT (.slice B m q) ts :: M) := by
 have hx : decRR (encRR ⟨k, e, spOf a b c d ps ts, id, task, tick, wait, pid, nonce, code⟩) = (⟨k, e, ⟨a, b, c, d, ps, ts.map toTS⟩, id, task, tick, wait, pid, nonce, code⟩, 0) := by
  rw [encRR_ok h]
  exact (decRR_codec _ _).2 ⟨⟨(okRe_iff _).2 h, hc⟩, rfl⟩
 have q := dec15c _ _ _ _ _ _ _ _ _ _ _ _ _ _ _ _ _ hx s
 rw [fwd_mapR] at q
 exact q
theorem eq_allR {A B : RE} (h1 : recE A = 0) (h2 : recE B = 0) (c1 : -9223372036854775808 ≤ A.code ∧ A.code ≤ 9223372036854775807) (c2 : -9223372036854775808 ≤ B.code ∧ B.code ≤ 9223372036854775807) :
  ((YtkhcdichdnbcmaaR.Ext.mkB (encRR A)).toList == (YtkhcdichdnbcmaaR.Ext.mkB (encRR B)).toList) = decide (A = B) := by
 rw [toList_mkB, toList_mkB, encRR_ok h1, encRR_ok h2]
 by_cases h : A = B
 ·subst h
  simp
 ·rw [decide_eq_false h]
  exact beq_eq_false_iff_ne.mpr (fun q => h (decRe_codec.apart (r := []) (s := []) ⟨(okRe_iff _).2 h1, c1⟩ ⟨(okRe_iff _).2 h2, c2⟩ (by rw [q])).1)
set_option maxHeartbeats 1000000 in
theorem rback_all (k e a b c d id task tick wait pid nonce code k' e' a' b' c' d' id' task' tick' wait' pid' nonce' code' : Int) (A B A' B' : Option Addr) (n m p q n' m' p' q' : Nat) (ps ps' : List Int) (ts ts' : List TX) (t : List UInt8) (w : World)
  (hF1 : ∀ L, FewOf w L a b c d A B n m p q ps ts) (hF2 : ∀ L, FewOf w L a' b' c' d' A' B' n' m' p' q' ps' ts') (hps : ps.length ≤ 20) (hts : ts.length ≤ 10) (hps' : ps'.length ≤ 20) (hts' : ts'.length ≤ 10) (hc1 : -9223372036854775808 ≤ code ∧ code ≤ 9223372036854775807) (hc2 : -9223372036854775808 ≤ code' ∧ code' ≤ 9223372036854775807) :
  Calls Try.prog 9 #[.agg #[.int .u8 k, .int .i64 e, .int .i64 a, .int .i64 b, .int .i64 c, .int .i64 d, .slice A n p, .slice B m q, .int .i64 id, .int .i64 task, .int .i64 tick, .int .i64 wait, .int .i64 pid, .int .i64 nonce, .int .i64 code], .agg #[.int .u8 k', .int .i64 e', .int .i64 a', .int .i64 b', .int .i64 c', .int .i64 d', .slice A' n' p', .slice B' m' q', .int .i64 id', .int .i64 task', .int .i64 tick', .int .i64 wait', .int .i64 pid', .int .i64 nonce', .int .i64 code'], .string (YtkhcdichdnbcmaaR.Ext.mkB t)] w fun ee w' => ee = .returned (.bool true) ∧ Below w.heap.size w w' := by
 have hD := fun h => dec_ownR k e a b c d id task tick wait pid nonce code ps ts hc1 h w
 have hE := fun h1 h2 => eq_allR (A := ⟨k, e, spOf a b c d ps ts, id, task, tick, wait, pid, nonce, code⟩) (B := ⟨k', e', spOf a' b' c' d' ps' ts', id', task', tick', wait', pid', nonce', code'⟩) h1 h2 hc1 hc2
 have hL : recE ⟨k, e, spOf a b c d ps ts, id, task, tick, wait, pid, nonce, code⟩ = 0 → (encRR ⟨k, e, spOf a b c d ps ts, id, task, tick, wait, pid, nonce, code⟩).length ≤ 220 := fun h => by rw [encRR_ok h]; exact encRe_length ⟨(okRe_iff _).2 h, hc1⟩
 cases hx : decRR (t.take (min t.length 400)) with
 | mk x er =>
  by_cases h0 : er = 0
  ·subst h0
   obtain ⟨ho, he⟩ := (decRR_codec _ _).1 hx
   have hc := (okRe_iff _).1 ho.1
   have hr := encRR_ok hc
   rw [he] at hr
   obtain ⟨k2, e2, ⟨a2, b2, c2, d2, ps2, tx2⟩, id2, task2, tick2, wait2, pid2, nonce2, code2⟩ := x
   have hs : spOf a2 b2 c2 d2 ps2 (tx2.map ofTS) = ⟨a2, b2, c2, d2, ps2, tx2⟩ := spOf_of ⟨a2, b2, c2, d2, ps2, tx2⟩
   refine rback_0 k e a b c d id task tick wait pid nonce code k' e' a' b' c' d' id' task' tick' wait' pid' nonce' code' A B A' B' n m p q n' m' p' q' ps ps' ts ts' t _ k2 e2 a2 b2 c2 d2 id2 task2 tick2 wait2 pid2 nonce2 code2 ps2 (tx2.map ofTS) _ _ _ _ w hF1 hF2 rfl hps hts hps' hts' hc1 hc2 rfl rfl rfl rfl (fun h => hD h) hL (fun h1 h2 => hE h1 h2) (Lib.hid (fun W M s => dec15c _ _ _ _ _ _ _ _ _ _ _ _ _ _ _ _ _ hx s)) (Lib.hid ?_)
   rw [hs]
   exact ⟨hr, hc, ho.2⟩
  ·have hz := decRR_err (t.take (min t.length 400)) (by rw [hx]; exact h0)
   rw [hx] at hz
   injection hz with hz1 hz2
   subst hz1 hz2
   exact rback_4 k e a b c d id task tick wait pid nonce code k' e' a' b' c' d' id' task' tick' wait' pid' nonce' code' A B A' B' n m p q n' m' p' q' ps ps' ts ts' t _ _ _ _ _ w hF1 hF2 rfl hps hts hps' hts' hc1 hc2 rfl rfl rfl rfl (fun h => hD h) hL (fun h1 h2 => hE h1 h2) (Lib.hid (fun W M s => dec15c _ 0 0 0 0 0 0 [] [] 0 0 0 0 0 0 0 4 hx s))
theorem walk_RecBack (W : World) (k e a b c d : Int) (A4 : Option Addr) (c4 : Nat) (l4 : List Int) (A5 : Option Addr) (c5 : Nat) (l5 : List E90) (id task tick wait pid nonce code : Int) (h0 : (Lit.int .u8 k).wf = true) (h1 : (Lit.int .i64 e).wf = true) (h2 : (Lit.int .i64 a).wf = true) (h3 : (Lit.int .i64 b).wf = true) (h4 : (Lit.int .i64 c).wf = true) (h5 : (Lit.int .i64 d).wf = true) (h6 : SL24 W A4 c4 l4) (h7 : SL25 W A5 c5 l5) (h8 : (Lit.int .i64 id).wf = true) (h9 : (Lit.int .i64 task).wf = true) (h10 : (Lit.int .i64 tick).wf = true) (h11 : (Lit.int .i64 wait).wf = true) (h12 : (Lit.int .i64 pid).wf = true) (h13 : (Lit.int .i64 nonce).wf = true) (h14 : (Lit.int .i64 code).wf = true)
  (k' e' a' b' c' d' : Int) (A4' : Option Addr) (c4' : Nat) (l4' : List Int) (A5' : Option Addr) (c5' : Nat) (l5' : List E90) (id' task' tick' wait' pid' nonce' code' : Int) (h0' : (Lit.int .u8 k').wf = true) (h1' : (Lit.int .i64 e').wf = true) (h2' : (Lit.int .i64 a').wf = true) (h3' : (Lit.int .i64 b').wf = true) (h4' : (Lit.int .i64 c').wf = true) (h5' : (Lit.int .i64 d').wf = true) (h6' : SL24 W A4' c4' l4') (h7' : SL25 W A5' c5' l5') (h8' : (Lit.int .i64 id').wf = true) (h9' : (Lit.int .i64 task').wf = true) (h10' : (Lit.int .i64 tick').wf = true) (h11' : (Lit.int .i64 wait').wf = true) (h12' : (Lit.int .i64 pid').wf = true) (h13' : (Lit.int .i64 nonce').wf = true) (h14' : (Lit.int .i64 code').wf = true) (s : ByteArray) (hs : s.size ≤ 140737488351232) :
  Calls Try.prog 9 #[.agg #[.int .u8 k, .int .i64 e, .int .i64 a, .int .i64 b, .int .i64 c, .int .i64 d, .slice A4 l4.length c4, .slice A5 l5.length c5, .int .i64 id, .int .i64 task, .int .i64 tick, .int .i64 wait, .int .i64 pid, .int .i64 nonce, .int .i64 code], .agg #[.int .u8 k', .int .i64 e', .int .i64 a', .int .i64 b', .int .i64 c', .int .i64 d', .slice A4' l4'.length c4', .slice A5' l5'.length c5', .int .i64 id', .int .i64 task', .int .i64 tick', .int .i64 wait', .int .i64 pid', .int .i64 nonce', .int .i64 code'], .string s] W fun e w' => e = .returned (.bool true) ∧ Below W.heap.size W w' := by
 have q1 := readsT h7
 have q2 := readsT h7'
 obtain ⟨t, rfl⟩ : ∃ t, s = YtkhcdichdnbcmaaR.Ext.mkB t := ⟨s.data.toList, (mkB_data s).symm⟩
 have hl : ∀ l : List Int, (l.take 20).length ≤ 20 := fun l => by rw [List.length_take]; omega
 have hm : ∀ l : List TX, (l.take 10).length ≤ 10 := fun l => by rw [List.length_take]; omega
 exact rback_all k e a b c d id task tick wait pid nonce code k' e' a' b' c' d' id' task' tick' wait' pid' nonce' code' A4 A5 A4' A5' _ _ _ _ _ _ _ _ _ _ _ _ t W
  (fun L => few_a (w0 := W) (w := W) a b c d l4 (l5.map toE) (readsI h6).1 rfl (readsI h6).2 q1.1 (by rw [List.length_map]) (by have := q1.2; rw [List.length_map] at this; exact this))
  (fun L => few_a (w0 := W) (w := W) a' b' c' d' l4' (l5'.map toE) (readsI h6').1 rfl (readsI h6').2 q2.1 (by rw [List.length_map]) (by have := q2.2; rw [List.length_map] at this; exact this)) (hl _) (hm _) (hl _) (hm _) (i64_of_wf h14) (i64_of_wf h14')
end Go.Proofs.YtkhcdichdnbcmaaR
end
