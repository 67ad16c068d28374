/- Texts of this session, merged (wip/gen/shake.py). -/
import Derived.Test.YtkhcdichdnbcmaaROpen
import Derived.Test.YtkhcdichdnbcmaaRRr5
import Derived.Test.YtkhcdichdnbcmaaRRr14
import Derived.Test.YtkhcdichdnbcmaaRRr18
import Derived.Test.YtkhcdichdnbcmaaRRr19
import Derived.Test.YtkhcdichdnbcmaaRRr20
import Derived.Test.YtkhcdichdnbcmaaRRr21
section
namespace Go.Proofs.YtkhcdichdnbcmaaR.PureC
open Go.RowKit Go.Proofs.YtkhcdichdnbcmaaR Go.Proofs.YtkhcdichdnbcmaaR.Ext Go.Proofs.YtkhcdichdnbcmaaR.C Go.Proofs.YtkhcdichdnbcmaaRW.PrintWords Go.Proofs.YtkhcdichdnbcmaaRW.PrintLast Go.Proofs.YtkhcdichdnbcmaaRW.PrintMore
open Go.Proofs.YtkhcdichdnbcmaaR.Sp Go.Proofs.YtkhcdichdnbcmaaR.Pk
theorem runint_eq (l : List UInt8) (hl : l.length ≤ 2000) : sacristanref02_Unint.f 40 (mkB l) = some ((uniT l).1, mkB (uniT l).2.1, (uniT l).2.2) := by
 unfold sacristanref02_Unint.f
 rw [PureR.runvar_eq 40 (by omega) l (by omega), Option.bind_some]
 unfold uniT PureR.unvarR
 cases h : unvarL l with
 | none => rfl
 | some p =>
  obtain ⟨n, r⟩ := p
  have hn : n < 18446744073709551616 := (var_unvar h).2
  simp only
  have e0 : Int.tdiv (n : Int) 2 = (n : Int) / 2 := Int.tdiv_eq_ediv_of_nonneg (by omega)
  have e4 : IntKind.u64.wrap ((n : Int) / 2) = (n : Int) / 2 := IntWalk.u64_in _ (by omega)
  have e5 : Int.tmod (n : Int) 2 = (n : Int) % 2 := Int.tmod_eq_emod_of_nonneg (by omega)
  have e1 : wrap64 ((n : Int) / 2) = (n : Int) / 2 := by unfold wrap64; omega
  have e2 : wrap64 (-((n : Int) / 2)) = -((n : Int) / 2) := by unfold wrap64; omega
  have e3 : wrap64 (-((n : Int) / 2) - 1) = -((n : Int) / 2) - 1 := by unfold wrap64; omega
  rw [if_pos trivial, e0, e5, e4, e1, e2, e3]
  unfold unzig
  by_cases h2 : n % 2 = 1
  ·rw [if_pos (by omega), if_pos h2]
   simp
  ·rw [if_neg (by omega), if_neg h2]
   simp
end Go.Proofs.YtkhcdichdnbcmaaR.PureC
namespace Go.Proofs.YtkhcdichdnbcmaaR
open Go.RowKit Go.Proofs.YtkhcdichdnbcmaaR Go.Proofs.YtkhcdichdnbcmaaR.Ext Go.Proofs.YtkhcdichdnbcmaaR.C Go.Proofs.YtkhcdichdnbcmaaR.Sp Go.Proofs.YtkhcdichdnbcmaaRW.PrintWords Go.Proofs.YtkhcdichdnbcmaaRW.PrintLast
set_option linter.unusedVariables false
set_option linter.unusedSimpArgs false
theorem runi_s {w0 w : World} {L : List HP} (l : List UInt8) (hl : l.length ≤ 2000) (h : St w0 w L) : Calls Try.prog 51 #[.string (YtkhcdichdnbcmaaR.Ext.mkB l)] w fun ee w' => ee = .returned (.tuple #[.int .i64 (uniT l).1, .string (YtkhcdichdnbcmaaR.Ext.mkB (uniT l).2.1), .int .i64 (uniT l).2.2]) ∧ St w0 w' L := by
 refine (sacristanref02_Unint.calls 40 _ _ _ _ w (PureC.runint_eq l hl)).mono ?_
 rintro ee w' ⟨rfl, hb⟩
 exact ⟨rfl, h.more hb⟩
def mostsN : List Int := [N62, N62, N62, N62, N62, N62, N62]
def fldN (k : Int) : List (Bool × Int) := (usesB k).zip mostsN
def sqN (l : List UInt8) : Nat → List UInt8 × Bool
 | 0 => (l, false)
 | i + 1 => (PureR.numR (sqN l i).1 (sqN l i).2).2
def nnN (l : List UInt8) (i : Nat) : Int := (PureR.numR (sqN l i).1 (sqN l i).2).1
def xN (fl : List Int) (l : List UInt8) : Nat → Nat → Int
 | 0, _ => 0
 | i + 1, j => if rd fl i = (j : Int) then nnN l i else xN fl l i j
theorem sqN_len (l : List UInt8) : ∀ i, (sqN l i).1.length ≤ l.length
 | 0 => Nat.le_refl _
 | i + 1 => Nat.le_trans (PureR.numR_len _ _) (sqN_len l i)
theorem numR_is (l : List UInt8) : PureR.numR l false = match numL N62 l with | none => (0, l, true) | some x => (x.1, x.2, false) := by
 cases h : numL N62 l with
 | none => exact PureR.numR_none (by rw [show PureR.M62 = N62 from rfl]; exact h)
 | some x => exact PureR.numR_some (by rw [show PureR.M62 = N62 from rfl]; exact h)
def xsN (fl : List Int) (l : List UInt8) : List Int := [xN fl l fl.length 0, xN fl l fl.length 1, xN fl l fl.length 2, xN fl l fl.length 3, xN fl l fl.length 4, xN fl l fl.length 5, xN fl l fl.length 6]
theorem fPN_aux (n : Nat) (l : List UInt8) : (sqN l n).2 = true → (sqN l (n + 1)).2 = true := by
 intro h
 show (PureR.numR (sqN l n).1 (sqN l n).2).2.2 = true
 rw [h]; rfl
theorem fPN_s (l r : List UInt8) (n : Nat) (h : sqN l n = (r, false)) : (numL N62 r = none ∧ (sqN l (n + 1)).2 = true) ∨ ∃ a r', numL N62 r = some (a, r') ∧ sqN l (n + 1) = (r', false) ∧ nnN l n = a := by
 have h1 : sqN l (n + 1) = (PureR.numR (sqN l n).1 (sqN l n).2).2 := rfl
 have h0 : nnN l n = (PureR.numR (sqN l n).1 (sqN l n).2).1 := rfl
 rw [h] at h1 h0
 simp only at h1 h0
 rw [numR_is] at h1 h0
 cases hq : numL N62 r with
 | none => rw [hq] at h1; left; exact ⟨rfl, by rw [h1]⟩
 | some x => rw [hq] at h1 h0; right; exact ⟨x.1, x.2, rfl, h1, h0⟩
theorem fP_N (k : Int) (l : List UInt8) : fP (fldN k) l = if (sqN l (fieldsL k).length).2 = false then some (xsN (fieldsL k) l, (sqN l (fieldsL k).length).1) else none := by
 have z0 : sqN l 0 = (l, false) := rfl
 rcases nine_cases k with h | h
 ·rcases h with rfl | rfl | rfl | rfl | rfl | rfl | rfl | rfl | rfl
  all_goals simp only [fieldsL, fldN, usesB, mostsN, xsN]
  all_goals simp (config := { decide := true }) only [if_true, if_false, List.zip_cons_cons, List.zip_nil_left, fP, List.length_cons, List.length_nil, xN, rd]
  all_goals simp (config := { decide := true })
  all_goals rcases fPN_s l l 0 z0 with ⟨e1, b1⟩ | ⟨a1, r1, e1, s1, n1⟩
  all_goals first
   | (simp [e1, b1, fPN_aux 1 l b1, fPN_aux 2 l (fPN_aux 1 l b1), fPN_aux 3 l (fPN_aux 2 l (fPN_aux 1 l b1))]; done)
   | (simp [e1, s1, n1]; done)
   | (rcases fPN_s l r1 1 s1 with ⟨e2, b2⟩ | ⟨a2, r2, e2, s2, n2⟩ <;> first
     | (simp [e1, e2, b2, fPN_aux 2 l b2, fPN_aux 3 l (fPN_aux 2 l b2)]; done)
     | (simp [e1, e2, s2, n1, n2]; done)
     | (rcases fPN_s l r2 2 s2 with ⟨e3, b3⟩ | ⟨a3, r3, e3, s3, n3⟩ <;> first
       | (simp [e1, e2, e3, b3, fPN_aux 3 l b3]; done)
       | (simp [e1, e2, e3, s3, n1, n2, n3]; done)
       | (rcases fPN_s l r3 3 s3 with ⟨e4, b4⟩ | ⟨a4, r4, e4, s4, n4⟩ <;> first
         | (simp [e1, e2, e3, e4, b4]; done)
         | (simp [e1, e2, e3, e4, s4, n1, n2, n3, n4]; done))))
 ·obtain ⟨h1, h2, h3, h4, h5, h6, h7, h8, h9⟩ := h
  simp [fieldsL, fldN, usesB, mostsN, xsN, fP, xN, h1, h2, h3, h4, h5, h6, h7, h8, h9, z0]
def headRN : List UInt8 → Option ((Int × List Int) × List UInt8) := seqP kindP fun k => fP (fldN k)
def wholeRN : List UInt8 → Option (((Int × List Int) × (SP × Int)) × List UInt8) := seqP headRN fun x => tailRP x.1
def rdReN (l : List UInt8) : Option (RE × List UInt8) := (wholeRN l).map fun x => (toRE x.1, x.2)
def decReN (l : List UInt8) : Option (RE × List UInt8) := (rdReN l).bind fun x => if okRe x.1 = true then some x else none
def gReN (r : RE) : Prop := (((0 ≤ r.kind ∧ r.kind ≤ N62) ∧ decide (r.kind ≤ 255) = true) ∧ gF (fldN r.kind) (valsR r)) ∧ tailRG r.kind (r.spec, r.code)
theorem fldN_len (k : Int) : (fldN k).length = 7 := by
 unfold fldN
 rw [List.length_zip, usesB_len]
 rfl
theorem fldN_most (k : Int) : ∀ x ∈ fldN k, x.2 < 18446744073709551616 := by
 intro x hx
 have : x.2 ∈ mostsN := (List.of_mem_zip (a := x.1) (b := x.2) hx).2
 simp only [mostsN, List.mem_cons, List.not_mem_nil, or_false] at this
 unfold N62 at this
 omega
theorem rdReN_codec : Codec rdReN gReN encRe := by
 have h0 : Codec kindP (fun x => (0 ≤ x ∧ x ≤ N62) ∧ decide (x ≤ 255) = true) encN := Codec.guard (num_codec (most := N62) (by unfold N62; omega)) (fun x => decide (x ≤ 255))
 have h1 : Codec headRN (fun x => ((0 ≤ x.1 ∧ x.1 ≤ N62) ∧ decide (x.1 ≤ 255) = true) ∧ gF (fldN x.1) x.2) (fun x => encN x.1 ++ encF (fldN x.1) x.2) :=
  Codec.seq h0 (fun a _ => fP_codec _ (fldN_most a))
 have h2 := Codec.seq h1 (q := fun x => tailRP x.1) (fun a _ => tailR_codec a.1)
 have hE : ∀ (k : Int) (vs : List Int), encF (fldN k) vs = encF (fldK k) vs := by
  intro k vs
  unfold fldN fldK
  obtain ⟨a, b, c, d, e, f, g, hu⟩ := seven (usesB_len k)
  rw [hu]
  unfold mostsN mostsR
  simp only [List.zip_cons_cons, List.zip_nil_left]
  rcases vs with _ | ⟨v0, _ | ⟨v1, _ | ⟨v2, _ | ⟨v3, _ | ⟨v4, _ | ⟨v5, _ | ⟨v6, t⟩⟩⟩⟩⟩⟩⟩ <;> simp only [encF]
 intro l x r
 simp only [rdReN, Option.map_eq_some_iff, Prod.mk.injEq]
 constructor
 ·rintro ⟨⟨⟨⟨k, vs⟩, t⟩, r'⟩, h3, rfl, rfl⟩
  obtain ⟨h4, h5⟩ := (h2 _ _ _).1 h3
  have hv : valsR (toRE ((k, vs), t)) = vs := vals7 (by rw [gF_len h4.1.2, fldN_len])
  refine ⟨⟨⟨h4.1.1, ?_⟩, h4.2⟩, ?_⟩
  ·rw [hv]; exact h4.1.2
  ·unfold encRe
   rw [hv]
   rw [show (toRE ((k, vs), t)).kind = k from rfl, ← hE]
   exact h5
 ·rintro ⟨hg, he⟩
  refine ⟨(ofRE x, r), (h2 _ _ _).2 ⟨hg, ?_⟩, rfl, rfl⟩
  show (encN x.kind ++ encF (fldN x.kind) (valsR x)) ++ tailRW x.kind (x.spec, x.code) ++ r = l
  rw [hE]
  exact he
theorem gF_up (k : Int) (vs : List Int) (h : gF (fldK k) vs) : gF (fldN k) vs := by
 unfold fldN
 unfold fldK at h
 obtain ⟨a, b, c, d, e, f, g, hu⟩ := seven (usesB_len k)
 rw [hu] at h ⊢
 unfold mostsN
 unfold mostsR at h
 simp only [List.zip_cons_cons, List.zip_nil_left] at h ⊢
 have up : ∀ (u : Bool) (v m : Int), m ≤ N62 → (if u = true then 0 ≤ v ∧ v ≤ m else v = 0) → (if u = true then 0 ≤ v ∧ v ≤ N62 else v = 0) := by
  intro u v m hm
  cases u
  ·simp
  ·simp only [if_true]; omega
 have hN : N62 = 4611686018427387904 := rfl
 rcases vs with _ | ⟨v0, _ | ⟨v1, _ | ⟨v2, _ | ⟨v3, _ | ⟨v4, _ | ⟨v5, _ | ⟨v6, _ | ⟨v7, t⟩⟩⟩⟩⟩⟩⟩⟩ <;> simp only [gF, and_false] at h ⊢
 obtain ⟨h0, h1, h2, h3, h4, h5, h6, -⟩ := h
 exact ⟨up _ _ _ (by omega) h0, up _ _ _ (by omega) h1, up _ _ _ (by omega) h2, up _ _ _ (by omega) h3, up _ _ _ (by omega) h4, up _ _ _ (by omega) h5, up _ _ _ (by omega) h6, trivial⟩
theorem gRe_up {r : RE} (h : gRe r) : gReN r := by
 obtain ⟨⟨h1, h2⟩, h3⟩ := h
 exact ⟨⟨⟨⟨h1.1, by unfold N62; omega⟩, decide_eq_true (by omega)⟩, gF_up _ _ h2⟩, h3⟩
theorem decReN_codec : Codec decReN goodRe encRe := by
 intro l c r
 rw [show decReN l = (rdReN l).bind fun x => if okRe x.1 = true then some x else none from rfl, (Codec.guard rdReN_codec okRe) l c r]
 refine ⟨fun h => ⟨⟨h.1.2, ?_⟩, h.2⟩, fun h => ⟨⟨gRe_up (okRe_gRe h.1.2 h.1.1), h.1.1⟩, h.2⟩⟩
 have ht := h.1.1.2
 unfold tailRG at ht
 split at ht
 ·have : c.code = 0 := ht.2
  omega
 ·split at ht
  ·exact ht.2
  ·have : c.code = 0 := ht.2
   omega
theorem decReN_eq (l : List UInt8) : decReN l = decRe l := by
 apply Option.ext
 rintro ⟨c, r⟩
 exact (decReN_codec l c r).trans (decRe_codec l c r).symm
def decRRN (l : List UInt8) : RE × Int := match decReN l with | some (r, []) => (r, 0) | _ => (zRE, 4)
theorem decRRN_eq (l : List UInt8) : decRRN l = decRR l := by
 unfold decRRN decRR
 rw [decReN_eq]
 rcases decRe l with _ | ⟨r, _ | ⟨a, t⟩⟩ <;> rfl
theorem decN_no {l : List UInt8} (h : numL N62 l = none) : decRR l = (zRE, 4) := by
 rw [← decRRN_eq]
 unfold decRRN decReN rdReN wholeRN seqP headRN seqP kindP
 rw [h]
 rfl
theorem decN_big {l r1 : List UInt8} {k : Int} (h : numL N62 l = some (k, r1)) (hk : 255 < k) : decRR l = (zRE, 4) := by
 rw [← decRRN_eq]
 unfold decRRN decReN rdReN wholeRN seqP headRN seqP kindP
 rw [h, Option.bind_some, if_neg (by simpa using hk)]
 rfl
def recN (k : Int) (l : List UInt8) (s : SP) (cd : Int) : RE := toRE ((k, xsN (fieldsL k) l), (s, cd))
theorem decN_at {l r1 : List UInt8} {k : Int} (h : numL N62 l = some (k, r1)) (hk : k ≤ 255) : decRR l = if (sqN r1 (fieldsL k).length).2 = false then (match tailRP k (sqN r1 (fieldsL k).length).1 with | some (x, r) => if recE (recN k r1 x.1 x.2) = 0 ∧ r = [] then (recN k r1 x.1 x.2, 0) else (zRE, (4 : Int)) | none => (zRE, (4 : Int))) else (zRE, (4 : Int)) := by
 rw [← decRRN_eq]
 unfold decRRN decReN rdReN wholeRN seqP headRN seqP kindP
 rw [h, Option.bind_some, if_pos (decide_eq_true hk), Option.bind_some]
 show (match (Option.map (fun x => (toRE x.fst, x.snd)) ((Option.map (fun y => ((k, y.fst), y.snd)) (fP (fldN k) r1)).bind fun x => Option.map (fun y => ((x.fst, y.fst), y.snd)) (tailRP x.fst.fst x.snd))).bind fun x => if okRe x.fst = true then some x else none with | some (r, []) => (r, (0 : Int)) | x => (zRE, 4)) = _
 rw [fP_N]
 by_cases ho : (sqN r1 (fieldsL k).length).2 = false
 ·rw [if_pos ho, if_pos ho]
  simp only [Option.map_some, Option.bind_some]
  cases ht : tailRP k (sqN r1 (fieldsL k).length).1 with
  | none => rfl
  | some y =>
   obtain ⟨⟨sp, cd⟩, r⟩ := y
   simp only [Option.map_some, Option.bind_some]
   rw [show toRE ((k, xsN (fieldsL k) r1), (sp, cd)) = recN k r1 sp cd from rfl]
   unfold okRe
   by_cases hE : recE (recN k r1 sp cd) = 0
   ·rw [if_pos (decide_eq_true hE)]
    cases r with
    | nil => rw [if_pos ⟨hE, rfl⟩]
    | cons a b => rw [if_neg (by simp)]
   ·rw [if_neg (by simpa using hE), if_neg (fun q => hE q.1)]
 ·rw [if_neg ho, if_neg ho]
  rfl
end Go.Proofs.YtkhcdichdnbcmaaR
end
section
namespace Go.Proofs.YtkhcdichdnbcmaaR
open Go.RowKit Go.Proofs.YtkhcdichdnbcmaaR Go.Proofs.YtkhcdichdnbcmaaR.Ext Go.Proofs.YtkhcdichdnbcmaaR.C Go.Proofs.YtkhcdichdnbcmaaR.Sp Go.Proofs.YtkhcdichdnbcmaaRW.PrintWords Go.Proofs.YtkhcdichdnbcmaaRW.PrintLast
set_option linter.unusedVariables false
set_option linter.unusedSimpArgs false
theorem rchk17_nil {w0 w : World} {L : List HP} (kind e id task tick wait pid nonce code : Int) (h : St w0 w L) (r : Int) (hr : recE ⟨kind, e, zSP, id, task, tick, wait, pid, nonce, code⟩ = r) :
  Calls Try.prog 30 #[.agg (Rec15 kind e 0 0 0 0 none 0 0 none 0 0 id task tick wait pid nonce code)] w fun ee w' => ee = .returned (.int .i64 r) ∧ St w0 w' L := by
 refine (rchk17_s kind e 0 0 0 0 id task tick wait pid nonce code [] [] (by simp) (by simp) (St.rowKNil (flat_int _) (St.rowKNil kX_flat h)) r hr).mono ?_
 rintro ee w' ⟨rfl, s⟩
 exact ⟨rfl, s.drop.drop⟩
theorem tail_1 (l : List UInt8) : tailRP 1 l = (decS l).map fun x => ((x.1, 0), x.2) := rfl
theorem tail_8 (l : List UInt8) : tailRP 8 l = if (uniT l).2.2 = 0 then some ((zSP, (uniT l).1), (uniT l).2.1) else none := by
 unfold tailRP
 rw [if_neg (by decide), if_pos rfl]
 unfold unintL uniT
 cases hq : Pk.unvarL l with
 | none => simp
 | some y => simp
theorem tail_N (k : Int) (l : List UInt8) (h1 : k ≠ 1) (h8 : k ≠ 8) : tailRP k l = some ((zSP, 0), l) := by
 unfold tailRP
 rw [if_neg h1, if_neg h8]
set_option maxHeartbeats 4000000 in
theorem rdec15R {w0 w : World} {L : List HP} (l : List UInt8) (hlen : l.length ≤ 2000) (x : RE) (er : Int) (hx : decRR l = (x, er)) (h : St w0 w L) : Calls Try.prog 24 #[.string (YtkhcdichdnbcmaaR.Ext.mkB l)] w (Dec15 w0 L x er) := by
 have hz : ∀ {ee : Ending} {w' : World}, ee = .returned (.tuple #[.agg (Rec15 0 0 0 0 0 0 none 0 0 none 0 0 0 0 0 0 0 0 0), .int .i64 4]) ∧ St w0 w' L → Dec15 w0 L zRE 4 ee w' := by
  rintro ee w' ⟨rfl, s⟩
  exact ⟨none, none, 0, 0, 0, 0, rfl, St.rowKNil (flat_int _) (St.rowKNil kX_flat s)⟩
 cases h1 : numL N62 l with
 | none =>
  rw [decN_no h1] at hx
  obtain ⟨rfl, rfl⟩ := Prod.mk.inj hx
  have hq : PureR.numR l false = (0, l, true) := by rw [numR_is, h1]
  exact (rdec17_kb l 0 l (fun W g M hs => rnum_s g l hlen false 0 l true hq hs) h).mono fun _ _ => hz
 | some y =>
  obtain ⟨k, r1⟩ := y
  have hk0 := ((num_codec (most := N62) (by unfold N62; omega) _ _ _).1 h1).1
  have hq : PureR.numR l false = (k, r1, false) := by rw [numR_is, h1]
  have hl1 : r1.length ≤ 2000 := by have := PureR.numL_len h1; simp only at this; omega
  have N1 : ∀ (W : World) (g : Nat) (M : List HP), St w0 W (Go.Proofs.YtkhcdichdnbcmaaR.blk g #[.string (YtkhcdichdnbcmaaR.Ext.mkB l), .bool false] tRd :: M) → _ := fun W g M hs => rnum_s g l hlen false k r1 false hq hs
  by_cases hk : k ≤ 255
  case neg =>
   rw [decN_big h1 (by omega)] at hx
   obtain ⟨rfl, rfl⟩ := Prod.mk.inj hx
   exact (rdec17_kg l k r1 (by omega) N1 h).mono fun _ _ => hz
  have hx2 := decN_at h1 hk
  rw [hx] at hx2
  obtain ⟨f1, f2, -⟩ := fields_all k
  obtain ⟨fl, hfl⟩ : ∃ fl, fl = fieldsL k := ⟨_, rfl⟩
  rw [← hfl] at f1 f2 hx2
  have hls : ∀ i, (sqN r1 i).1.length ≤ 2000 := fun i => Nat.le_trans (sqN_len r1 i) hl1
  have hN : ∀ i, i < fl.length → ∀ (W : World) (g : Nat) (M : List HP), St w0 W (Go.Proofs.YtkhcdichdnbcmaaR.blk g #[.string (YtkhcdichdnbcmaaR.Ext.mkB (sqN r1 i).1), .bool (sqN r1 i).2] tRd :: M) → Calls Try.prog 45 #[.pointer (some ⟨g, 0, none⟩)] W fun ee w' => ee = .returned (.int .i64 (nnN r1 i)) ∧ St w0 w' (Go.Proofs.YtkhcdichdnbcmaaR.blk g #[.string (YtkhcdichdnbcmaaR.Ext.mkB (sqN r1 (i + 1)).1), .bool (sqN r1 (i + 1)).2] tRd :: M) :=
   fun i hi W g M hs => rnum_s g _ (hls i) _ _ _ _ rfl hs
  have hfail : (x, er) = (zRE, 4) → ∀ w', St w0 w' L → Dec15 w0 L x er (.returned (.tuple #[.agg (Rec15 0 0 0 0 0 0 none 0 0 none 0 0 0 0 0 0 0 0 0), .int .i64 4])) w' := by
   intro hq w' s
   obtain ⟨rfl, rfl⟩ := Prod.mk.inj hq
   exact hz ⟨rfl, s⟩
  have hbadB : (sqN r1 fl.length).2 = true → (x, er) = (zRE, 4) := by
   intro hb
   rw [hx2, if_neg (by rw [hb]; decide)]
  have hbadE : ∀ s c r, tailRP k (sqN r1 fl.length).1 = some ((s, c), r) → (recE (recN k r1 s c) ≠ 0 ∨ r ≠ []) → (x, er) = (zRE, 4) := by
   intro s c r ht hq
   rw [ht] at hx2
   rw [hx2]
   split
   ·show (if recE (recN k r1 s c) = 0 ∧ r = [] then (recN k r1 s c, (0 : Int)) else (zRE, 4)) = _
    rw [if_neg]
    rintro ⟨q1, q2⟩
    exact hq.elim (fun z => z q1) (fun z => z q2)
   ·rfl
  have hbadN : tailRP k (sqN r1 fl.length).1 = none → (x, er) = (zRE, 4) := by
   intro ht
   rw [ht] at hx2
   rw [hx2]
   split <;> rfl
  have hgood : ∀ s c r, tailRP k (sqN r1 fl.length).1 = some ((s, c), r) → (sqN r1 fl.length).2 = false → recE (recN k r1 s c) = 0 → r = [] → (x, er) = (recN k r1 s c, 0) := by
   intro s c r ht hb hE hr
   rw [ht, if_pos hb] at hx2
   rw [hx2]
   show (if recE (recN k r1 s c) = 0 ∧ r = [] then (recN k r1 s c, (0 : Int)) else (zRE, 4)) = _
   rw [if_pos ⟨hE, hr⟩]
  by_cases k1 : k = 1
  ·subst k1
   have bad : ∀ (t : Int × Int × Int × Int × List Int × List TX × ByteArray × Bool), sacristanref13_Reader_Spec.f 100 (YtkhcdichdnbcmaaR.Ext.mkB (sqN r1 fl.length).1) (sqN r1 fl.length).2 = some t → t.2.2.2.2.2.2.2 = true → (x, er) = (zRE, 4) → Calls Try.prog 24 #[.string (YtkhcdichdnbcmaaR.Ext.mkB l)] w (Dec15 w0 L x er) := by
    rintro ⟨a, b, c, d, ps, ts, r3, b3⟩ ht hb hq
    simp only at hb
    subst hb
    exact rdec17_1 l r1 fl (fun i => (sqN r1 i).1) (fun i => (sqN r1 i).2) (nnN r1) (xN fl r1) a b c d ps ts r3 true 0 (Dec15 w0 L x er) N1 hfl.symm f2 f1 hN (fun j hj => rfl) (fun i hi j hj => rfl) rfl rfl (fun W g M hs => rspec9_s g _ _ a b c d ps ts r3 true ht hs)
     (fun q => absurd q (by decide)) (fun _ => hfail hq) (fun q => absurd q (by decide)) h
   cases hb : (sqN r1 fl.length).2 with
   | true =>
    obtain ⟨t, ht, hf⟩ := PureR.spec_bad _ (hls fl.length)
    exact bad t (by rw [hb]; exact ht) hf (hbadB hb)
   | false =>
    have hs := PureR.spec_run _ (hls fl.length)
    have htp := tail_1 (sqN r1 fl.length).1
    rw [← decS2_eq] at htp
    unfold decS2 at htp
    cases h3 : rdS2 (sqN r1 fl.length).1 with
    | none =>
     rw [h3] at htp hs
     obtain ⟨t, ht, hf⟩ := hs
     exact bad t (by rw [hb]; exact ht) hf (hbadN htp)
    | some y =>
     obtain ⟨⟨a, b, c, d, ps, ts⟩, r3⟩ := y
     rw [h3] at htp hs
     have hs : sacristanref13_Reader_Spec.f 100 (YtkhcdichdnbcmaaR.Ext.mkB (sqN r1 fl.length).1) false = some (a, b, c, d, ps, ts.map ofTS, YtkhcdichdnbcmaaR.Ext.mkB r3, (specE ⟨a, b, c, d, ps, ts⟩ != 0)) := hs
     simp only [Option.bind_some] at htp
     by_cases hsp : specE ⟨a, b, c, d, ps, ts⟩ = 0
     case neg =>
      rw [if_neg (by unfold okS; simpa using hsp)] at htp
      exact bad _ (by rw [hb]; exact hs) (by simpa using hsp) (hbadN htp)
     have hok : okS ⟨a, b, c, d, ps, ts⟩ = true := by unfold okS; exact decide_eq_true hsp
     have hlens := okS_gS hok
     obtain ⟨_, _, _, _, ⟨hl8, _⟩, hl4, _⟩ := hlens
     simp only at hl8 hl4
     rw [if_pos hok] at htp
     simp only [Option.map_some] at htp
     rw [show (specE ⟨a, b, c, d, ps, ts⟩ != 0) = false by rw [hsp]; rfl] at hs
     have hback : spOf a b c d ps (ts.map ofTS) = ⟨a, b, c, d, ps, ts⟩ := spOf_of ⟨a, b, c, d, ps, ts⟩
     refine rdec17_1 l r1 fl (fun i => (sqN r1 i).1) (fun i => (sqN r1 i).2) (nnN r1) (xN fl r1) a b c d ps (ts.map ofTS) (YtkhcdichdnbcmaaR.Ext.mkB r3) false (recE (recN 1 r1 ⟨a, b, c, d, ps, ts⟩ 0)) (Dec15 w0 L x er) N1 hfl.symm f2 f1 hN (fun j hj => rfl) (fun i hi j hj => rfl) rfl rfl
      (fun W g M hst => rspec9_s g _ _ a b c d ps (ts.map ofTS) _ false (by rw [hb]; exact hs) hst) (fun _ W M A B n m p q hst => ?_) (fun hq => ?_) (fun _ hr hE w' A B n m p q s => ?_) h
     ·refine rchk17_s 1 _ a b c d _ _ _ _ _ _ 0 ps (ts.map ofTS) (by omega) (by rw [List.length_map]; omega) hst _ ?_
      rw [hback, hfl]
      rfl
     ·refine hfail (hbadE _ _ _ htp ?_)
      rcases hq with q | q | q
      ·cases q
      ·exact .inr (by rw [toList_mkB] at q; exact q)
      ·exact .inl q
     ·rw [toList_mkB] at hr
      obtain ⟨rfl, rfl⟩ := Prod.mk.inj (hgood _ _ _ htp hb hE hr)
      rw [hfl] at *
      exact ⟨A, B, n, m, p, q, rfl, s⟩
  by_cases k8 : k = 8
  ·subst k8
   have ht8 := tail_8 (sqN r1 fl.length).1
   refine rdec17_8 l r1 fl (fun i => (sqN r1 i).1) (fun i => (sqN r1 i).2) (nnN r1) (xN fl r1) (uniT (sqN r1 fl.length).1).1 (uniT (sqN r1 fl.length).1).2.2 (uniT (sqN r1 fl.length).1).2.1 (recE (recN 8 r1 zSP (uniT (sqN r1 fl.length).1).1)) (Dec15 w0 L x er) N1 hfl.symm f2 f1 hN (fun j hj => rfl) (fun i hi j hj => rfl) rfl rfl
    (fun _ W M hs => runi_s _ (hls fl.length) hs) (fun W M hs => ?_) (fun hq => ?_) (fun hb he hr hE w' s => ?_) h
   ·refine rchk17_nil 8 _ _ _ _ _ _ _ _ hs _ ?_
    rw [hfl]
    rfl
   ·refine hfail ?_
    by_cases he : (uniT (sqN r1 fl.length).1).2.2 = 0
    ·rw [if_pos he] at ht8
     rcases hq with q | q | q | q
     ·exact hbadB q
     ·exact absurd he q
     ·exact hbadE _ _ _ ht8 (.inr q)
     ·exact hbadE _ _ _ ht8 (.inl q)
    ·rw [if_neg he] at ht8
     exact hbadN ht8
   ·rw [if_pos he] at ht8
    obtain ⟨rfl, rfl⟩ := Prod.mk.inj (hgood _ _ _ ht8 hb hE hr)
    rw [hfl] at *
    exact ⟨none, none, 0, 0, 0, 0, rfl, St.rowKNil (flat_int _) (St.rowKNil kX_flat s)⟩
  ·have htN := tail_N k (sqN r1 fl.length).1 k1 k8
   refine rdec17_N l r1 k fl (fun i => (sqN r1 i).1) (fun i => (sqN r1 i).2) (nnN r1) (xN fl r1) (recE (recN k r1 zSP 0)) (Dec15 w0 L x er) ⟨⟨hk0.1, hk⟩, k1, k8⟩ N1 hfl.symm f2 f1 hN (fun j hj => rfl) (fun i hi j hj => rfl) rfl rfl
    (fun W M hs => ?_) (fun hq => ?_) (fun hb hr hE w' s => ?_) h
   ·refine rchk17_nil k _ _ _ _ _ _ _ _ hs _ ?_
    rw [hfl]
    rfl
   ·refine hfail ?_
    rcases hq with q | q | q
    ·exact hbadB q
    ·exact hbadE _ _ _ htN (.inr q)
    ·exact hbadE _ _ _ htN (.inl q)
   ·obtain ⟨rfl, rfl⟩ := Prod.mk.inj (hgood _ _ _ htN hb hE hr)
    rw [hfl] at *
    exact ⟨none, none, 0, 0, 0, 0, rfl, St.rowKNil (flat_int _) (St.rowKNil kX_flat s)⟩
end Go.Proofs.YtkhcdichdnbcmaaR
end
section
namespace Go.Proofs.YtkhcdichdnbcmaaR
end Go.Proofs.YtkhcdichdnbcmaaR
end
section
namespace Go.Proofs.YtkhcdichdnbcmaaR
open Go.RowKit Go.Proofs.YtkhcdichdnbcmaaR Go.Proofs.YtkhcdichdnbcmaaR.Ext Go.Proofs.YtkhcdichdnbcmaaR.C Go.Proofs.YtkhcdichdnbcmaaR.Sp Go.Proofs.YtkhcdichdnbcmaaRW.PrintWords Go.Proofs.YtkhcdichdnbcmaaRW.PrintLast
set_option linter.unusedVariables false
set_option linter.unusedSimpArgs false
theorem slice_upto (l : List UInt8) (m : Nat) (hm : m ≤ l.length) (W : World) : (Instr.slice 9 (.string (YtkhcdichdnbcmaaR.Ext.mkB l)) none (some (.int .i64 (m : Int))) none).run Try.prog W = .ok (.string (YtkhcdichdnbcmaaR.Ext.mkB (l.take m))) W := by
 have hs : (YtkhcdichdnbcmaaR.Ext.mkB l).size = l.length := mkB_size l
 have he : (YtkhcdichdnbcmaaR.Ext.mkB l).extract 0 m = YtkhcdichdnbcmaaR.Ext.mkB (l.take m) := by
  apply ByteArray.ext
  simp [YtkhcdichdnbcmaaR.Ext.mkB, ByteArray.data_extract, List.extract_eq_take_drop]
 simp [go_sem, hs, Instr.slice]
 rw [if_pos (by omega)]
 simp [he]
set_option maxRecDepth 100000 in
set_option maxHeartbeats 4000000 in
theorem rreads_short (t S : List UInt8) (k e a b c d id task tick wait pid nonce code er : Int) (ps : List Int) (ts : List TX) (w : World) (hl : t.length ≤ 400) (hS : t.take t.length = S) (hps : ps.length ≤ 1000) (hts : ts.length ≤ 1000)
  (HA : Go.RowKit.Hid (∀ (W : World) (M : List HP), St w W M → Calls Try.prog 23 #[.string (YtkhcdichdnbcmaaR.Ext.mkB S)] W fun ee w' => ∃ A B n m p q, ee = .returned (.tuple #[.agg #[.int .u8 k, .int .i64 e, .int .i64 a, .int .i64 b, .int .i64 c, .int .i64 d, .slice A n p, .slice B m q, .int .i64 id, .int .i64 task, .int .i64 tick, .int .i64 wait, .int .i64 pid, .int .i64 nonce, .int .i64 code], .int .i64 er]) ∧ St w w' (RI (.slice A n p) ps :: RT (.slice B m q) ts :: M)))
  (HB : Go.RowKit.Hid (∀ (W : World) (M : List HP), St w W M → Calls Try.prog 24 #[.string (YtkhcdichdnbcmaaR.Ext.mkB S)] W fun ee w' => ∃ A B n m p q, ee = .returned (.tuple #[.agg #[.int .u8 k, .int .i64 e, .int .i64 a, .int .i64 b, .int .i64 c, .int .i64 d, .slice A n p, .slice B m q, .int .i64 id, .int .i64 task, .int .i64 tick, .int .i64 wait, .int .i64 pid, .int .i64 nonce, .int .i64 code], .int .i64 er]) ∧ St w w' (RI (.slice A n p) ps :: RT (.slice B m q) ts :: M))) :
  Calls Try.prog 8 #[.string (YtkhcdichdnbcmaaR.Ext.mkB t)] w fun ee w' => ee = .returned (.bool true) ∧ Below w.heap.size w w' := by
 have hlen : (YtkhcdichdnbcmaaR.Ext.mkB t).size = t.length := mkB_size t
 have q1 : (400 < (t.length : Int)) = False := eq_false (by omega)
 have q2 : (400 < t.length) = False := eq_false (by omega)
 have hsl := slice_upto t t.length (by omega)
 rw [hS] at hsl
 skip
 have HS := Lib.hid (And.intro hps hts)
 clear hps hts hl hS
 have S0 := Lib.hid (St.start w)
 go_enter Try.func8, Try.ntmps8
 go_wp2_with fail
 refine (HA.out _ _ S0.out).mono ?_
 rintro ee w1 ⟨A1, B1, n1, m1, p1, q3, rfl, s1⟩
 clear S0 hsl hlen q1 q2
 have s2 := s1.alloc #[.int .u8 k, .int .i64 e, .int .i64 a, .int .i64 b, .int .i64 c, .int .i64 d, .slice A1 n1 p1, .slice B1 m1 q3, .int .i64 id, .int .i64 task, .int .i64 tick, .int .i64 wait, .int .i64 pid, .int .i64 nonce, .int .i64 code] tRe
 clear s1
 have S2 := Lib.hid s2
 clear s2
 go_wp2_with fail
 generalize w1.heap.size = b3 at *
 refine (HB.out _ _ S2.out).mono ?_
 rintro ee w2 ⟨A2, B2, n2, m2, p2, q4, rfl, s3⟩
 clear S2
 have s4 := s3.alloc #[.int .u8 k, .int .i64 e, .int .i64 a, .int .i64 b, .int .i64 c, .int .i64 d, .slice A2 n2 p2, .slice B2 m2 q4, .int .i64 id, .int .i64 task, .int .i64 tick, .int .i64 wait, .int .i64 pid, .int .i64 nonce, .int .i64 code] tRe
 clear s3
 have s5 := s4.pick 2
 simp only [List.getElem_cons_succ, List.getElem_cons_zero, List.eraseIdx_cons_succ, List.eraseIdx_cons_zero] at s5
 clear s4
 have s6 := s5.pick 2
 simp only [List.getElem_cons_succ, List.getElem_cons_zero, List.eraseIdx_cons_succ, List.eraseIdx_cons_zero] at s6
 clear s5
 have s7 := s6.pick 5
 simp only [List.getElem_cons_succ, List.getElem_cons_zero, List.eraseIdx_cons_succ, List.eraseIdx_cons_zero] at s7
 clear s6
 have s8 := s7.pick 5
 simp only [List.getElem_cons_succ, List.getElem_cons_zero, List.eraseIdx_cons_succ, List.eraseIdx_cons_zero] at s8
 clear s7
 have hcb3 := (s8.pick 5).cells
 have hfb3 := (s8.pick 5).free
 have hcb5 := (s8.pick 4).cells
 have hfb5 := (s8.pick 4).free
 have Q := Lib.hid s8
 clear s8
 go_wp2_with fail
 refine (equ15_s k e a b c d id task tick wait pid nonce code k e a b c d id task tick wait pid nonce code ps ps ts ts HS.out.1 HS.out.2 true (by simp) Q.out).mono ?_
 rintro ee w3 ⟨rfl, y1⟩
 clear Q hcb3 hfb3 hcb5 hfb5
 have Q := Lib.hid y1
 clear y1
 go_wp2_with fail
 refine (awake17 Q.out).mono ?_
 rintro ee w4 ⟨rfl, y2⟩
 clear Q
 have HB := Lib.hid y2.bel
 clear y2
 go_wp2
 go_returns
 exact ⟨rfl, HB.out⟩
set_option maxRecDepth 100000 in
set_option maxHeartbeats 4000000 in
theorem rreads_long (t S : List UInt8) (k e a b c d id task tick wait pid nonce code er : Int) (ps : List Int) (ts : List TX) (w : World) (hl : 400 < t.length) (hS : t.take 400 = S) (hps : ps.length ≤ 1000) (hts : ts.length ≤ 1000)
  (HA : Go.RowKit.Hid (∀ (W : World) (M : List HP), St w W M → Calls Try.prog 23 #[.string (YtkhcdichdnbcmaaR.Ext.mkB S)] W fun ee w' => ∃ A B n m p q, ee = .returned (.tuple #[.agg #[.int .u8 k, .int .i64 e, .int .i64 a, .int .i64 b, .int .i64 c, .int .i64 d, .slice A n p, .slice B m q, .int .i64 id, .int .i64 task, .int .i64 tick, .int .i64 wait, .int .i64 pid, .int .i64 nonce, .int .i64 code], .int .i64 er]) ∧ St w w' (RI (.slice A n p) ps :: RT (.slice B m q) ts :: M)))
  (HB : Go.RowKit.Hid (∀ (W : World) (M : List HP), St w W M → Calls Try.prog 24 #[.string (YtkhcdichdnbcmaaR.Ext.mkB S)] W fun ee w' => ∃ A B n m p q, ee = .returned (.tuple #[.agg #[.int .u8 k, .int .i64 e, .int .i64 a, .int .i64 b, .int .i64 c, .int .i64 d, .slice A n p, .slice B m q, .int .i64 id, .int .i64 task, .int .i64 tick, .int .i64 wait, .int .i64 pid, .int .i64 nonce, .int .i64 code], .int .i64 er]) ∧ St w w' (RI (.slice A n p) ps :: RT (.slice B m q) ts :: M))) :
  Calls Try.prog 8 #[.string (YtkhcdichdnbcmaaR.Ext.mkB t)] w fun ee w' => ee = .returned (.bool true) ∧ Below w.heap.size w w' := by
 have hlen : (YtkhcdichdnbcmaaR.Ext.mkB t).size = t.length := mkB_size t
 have q1 : (400 < (t.length : Int)) = True := eq_true (by omega)
 have q2 : (400 < t.length) = True := eq_true (by omega)
 have hsl := slice_upto t 400 (by omega)
 rw [hS] at hsl
 have hsl2 : ∀ W : World, (Instr.slice 9 (.string (YtkhcdichdnbcmaaR.Ext.mkB t)) none (some (.int .i64 400)) none).run Try.prog W = .ok (.string (YtkhcdichdnbcmaaR.Ext.mkB S)) W := hsl
 have HS := Lib.hid (And.intro hps hts)
 clear hps hts hl hS
 have S0 := Lib.hid (St.start w)
 go_enter Try.func8, Try.ntmps8
 go_wp2_with fail
 refine (HA.out _ _ S0.out).mono ?_
 rintro ee w1 ⟨A1, B1, n1, m1, p1, q3, rfl, s1⟩
 clear S0 hsl hlen q1 q2
 have s2 := s1.alloc #[.int .u8 k, .int .i64 e, .int .i64 a, .int .i64 b, .int .i64 c, .int .i64 d, .slice A1 n1 p1, .slice B1 m1 q3, .int .i64 id, .int .i64 task, .int .i64 tick, .int .i64 wait, .int .i64 pid, .int .i64 nonce, .int .i64 code] tRe
 clear s1
 have S2 := Lib.hid s2
 clear s2
 go_wp2_with fail
 generalize w1.heap.size = b3 at *
 refine (HB.out _ _ S2.out).mono ?_
 rintro ee w2 ⟨A2, B2, n2, m2, p2, q4, rfl, s3⟩
 clear S2
 have s4 := s3.alloc #[.int .u8 k, .int .i64 e, .int .i64 a, .int .i64 b, .int .i64 c, .int .i64 d, .slice A2 n2 p2, .slice B2 m2 q4, .int .i64 id, .int .i64 task, .int .i64 tick, .int .i64 wait, .int .i64 pid, .int .i64 nonce, .int .i64 code] tRe
 clear s3
 have s5 := s4.pick 2
 simp only [List.getElem_cons_succ, List.getElem_cons_zero, List.eraseIdx_cons_succ, List.eraseIdx_cons_zero] at s5
 clear s4
 have s6 := s5.pick 2
 simp only [List.getElem_cons_succ, List.getElem_cons_zero, List.eraseIdx_cons_succ, List.eraseIdx_cons_zero] at s6
 clear s5
 have s7 := s6.pick 5
 simp only [List.getElem_cons_succ, List.getElem_cons_zero, List.eraseIdx_cons_succ, List.eraseIdx_cons_zero] at s7
 clear s6
 have s8 := s7.pick 5
 simp only [List.getElem_cons_succ, List.getElem_cons_zero, List.eraseIdx_cons_succ, List.eraseIdx_cons_zero] at s8
 clear s7
 have hcb3 := (s8.pick 5).cells
 have hfb3 := (s8.pick 5).free
 have hcb5 := (s8.pick 4).cells
 have hfb5 := (s8.pick 4).free
 have Q := Lib.hid s8
 clear s8
 go_wp2_with fail
 refine (equ15_s k e a b c d id task tick wait pid nonce code k e a b c d id task tick wait pid nonce code ps ps ts ts HS.out.1 HS.out.2 true (by simp) Q.out).mono ?_
 rintro ee w3 ⟨rfl, y1⟩
 clear Q hcb3 hfb3 hcb5 hfb5
 have Q := Lib.hid y1
 clear y1
 go_wp2_with fail
 refine (awake17 Q.out).mono ?_
 rintro ee w4 ⟨rfl, y2⟩
 clear Q
 have HB := Lib.hid y2.bel
 clear y2
 go_wp2
 go_returns
 exact ⟨rfl, HB.out⟩
theorem decRR_lens (l : List UInt8) : (decRR l).1.spec.ports.length ≤ 8 ∧ (decRR l).1.spec.tasks.length ≤ 4 := by
 cases hx : decRR l with
 | mk x er =>
  by_cases h0 : er = 0
  ·subst h0
   obtain ⟨ho, -⟩ := (decRR_codec _ _).1 hx
   have hg := (okRe_gRe ho.2 ho.1).2
   unfold tailRG at hg
   split at hg
   ·obtain ⟨_, _, _, _, ⟨h1, _⟩, h2, _⟩ := okS_gS hg.1
    simp only at h1 h2
    exact ⟨by simp only; omega, by simp only; omega⟩
   ·have : x.spec = zSP := by
     split at hg
     ·exact hg.1
     ·exact hg.1
    simp [this]
  ·have hz := decRR_err l (by rw [hx]; exact h0)
   rw [hx] at hz
   injection hz with hz
   subst hz
   simp [zRE]
theorem walk_RecReads (W : World) (s : ByteArray) (hs : s.size ≤ 140737488351232) : Calls Try.prog 8 #[.string s] W fun e w' => e = .returned (.bool true) ∧ Below W.heap.size W w' := by
 obtain ⟨t, rfl⟩ : ∃ t, s = YtkhcdichdnbcmaaR.Ext.mkB t := ⟨s.data.toList, (mkB_data s).symm⟩
 have key : ∀ S : List UInt8, S.length ≤ 2000 → ∃ (k e a b c d id task tick wait pid nonce code er : Int) (ps : List Int) (ts : List TX), ps.length ≤ 1000 ∧ ts.length ≤ 1000 ∧ (∀ (W0 W : World) (M : List HP), St W0 W M → Calls Try.prog 23 #[.string (YtkhcdichdnbcmaaR.Ext.mkB S)] W fun ee w' => ∃ A B n m p q, ee = .returned (.tuple #[.agg #[.int .u8 k, .int .i64 e, .int .i64 a, .int .i64 b, .int .i64 c, .int .i64 d, .slice A n p, .slice B m q, .int .i64 id, .int .i64 task, .int .i64 tick, .int .i64 wait, .int .i64 pid, .int .i64 nonce, .int .i64 code], .int .i64 er]) ∧ St W0 w' (RI (.slice A n p) ps :: RT (.slice B m q) ts :: M)) ∧ (∀ (W0 W : World) (M : List HP), St W0 W M → Calls Try.prog 24 #[.string (YtkhcdichdnbcmaaR.Ext.mkB S)] W fun ee w' => ∃ A B n m p q, ee = .returned (.tuple #[.agg #[.int .u8 k, .int .i64 e, .int .i64 a, .int .i64 b, .int .i64 c, .int .i64 d, .slice A n p, .slice B m q, .int .i64 id, .int .i64 task, .int .i64 tick, .int .i64 wait, .int .i64 pid, .int .i64 nonce, .int .i64 code], .int .i64 er]) ∧ St W0 w' (RI (.slice A n p) ps :: RT (.slice B m q) ts :: M)) := by
  intro S hS
  have hl := decRR_lens S
  refine ⟨(decRR S).1.kind, (decRR S).1.epoch, (decRR S).1.spec.id, (decRR S).1.spec.cpu, (decRR S).1.spec.mem, (decRR S).1.spec.disk, (decRR S).1.id, (decRR S).1.task, (decRR S).1.tick, (decRR S).1.wait, (decRR S).1.pid, (decRR S).1.nonce, (decRR S).1.code, (decRR S).2, (decRR S).1.spec.ports, (decRR S).1.spec.tasks.map ofTS, by omega, by rw [List.length_map]; omega, fun W0 W M h => dec15 S _ _ rfl h, fun W0 W M h => rdec15R S hS _ _ rfl h⟩
 by_cases hl : t.length ≤ 400
 ·obtain ⟨k, e, a, b, c, d, id, task, tick, wait, pid, nonce, code, er, ps, ts, h1, h2, h3, h4⟩ := key t (by omega)
  exact rreads_short t t k e a b c d id task tick wait pid nonce code er ps ts W hl (List.take_of_length_le (Nat.le_refl _)) h1 h2 (Lib.hid (h3 W)) (Lib.hid (h4 W))
 ·obtain ⟨k, e, a, b, c, d, id, task, tick, wait, pid, nonce, code, er, ps, ts, h1, h2, h3, h4⟩ := key (t.take 400) (by rw [List.length_take]; omega)
  exact rreads_long t _ k e a b c d id task tick wait pid nonce code er ps ts W (by omega) rfl h1 h2 (Lib.hid (h3 W)) (Lib.hid (h4 W))
end Go.Proofs.YtkhcdichdnbcmaaR
end
