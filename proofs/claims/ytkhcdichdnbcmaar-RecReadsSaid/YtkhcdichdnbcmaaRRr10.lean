/- Texts of this session, merged (wip/gen/shake.py). -/
import Derived.Test.YtkhcdichdnbcmaaRRr9
section
namespace Go.Proofs.YtkhcdichdnbcmaaR.PureC
open Go.RowKit Go.Proofs.YtkhcdichdnbcmaaR Go.Proofs.YtkhcdichdnbcmaaR.Ext Go.Proofs.YtkhcdichdnbcmaaR.C Go.Proofs.YtkhcdichdnbcmaaRW.PrintWords Go.Proofs.YtkhcdichdnbcmaaRW.PrintLast Go.Proofs.YtkhcdichdnbcmaaRW.PrintMore
open Go.Proofs.YtkhcdichdnbcmaaR.Sp Go.Proofs.YtkhcdichdnbcmaaR.Pk
set_option linter.unusedVariables false
set_option linter.unusedSimpArgs false
theorem or_one (m : Nat) (h : m < 9223372036854775808) : Go.bits .or .u64 ((m : Int) * 2) 1 = ((2 * m + 1 : Nat) : Int) := by
 have h2 := u64_or_nat (m * 2) 1 (by omega) (by omega)
 rw [show ((m * 2 : Nat) : Int) = (m : Int) * 2 by omega] at h2
 rw [show (1 : Int) = ((1 : Nat) : Int) from rfl, h2]
 congr 1
 rw [Nat.mul_comm m 2]
 exact (Nat.two_pow_add_eq_or_of_lt (i := 1) (by omega) m).symm
theorem and_one (m : Nat) (h : m < 18446744073709551616) : Go.bits .and .u64 (m : Int) 1 = ((m % 2 : Nat) : Int) := by
 have h2 := u64_and_nat m 1 h (by omega)
 rw [show (1 : Int) = ((1 : Nat) : Int) from rfl, h2, Nat.and_one_is_mod]
theorem var_eq (n : Nat) (hn : n < 18446744073709551616) : pack_Var.f (n : Int) = some (mkB (varL n)) := by unfold pack_Var.f; rw [if_pos (by omega)]; simp
theorem int_eq (i : Int) (h1 : -9223372036854775808 ≤ i) (h2 : i ≤ 9223372036854775807) : pack_Int.f i = some (mkB (encI i)) := by
 have hz := zig_lt h1 h2
 unfold pack_Int.f encI
 by_cases h : i < 0
 ·rw [if_pos h]
  have e1 : wrap64 (i + 1) = i + 1 := by unfold wrap64; omega
  have e2 : wrap64 (-(i + 1)) = -(i + 1) := by unfold wrap64; omega
  have e3 : IntKind.u64.wrap (-(i + 1)) = (((-(i + 1)).toNat : Nat) : Int) := by rw [IntWalk.u64_in _ (by omega)]; omega
  have e4 : IntKind.u64.wrap ((((-(i + 1)).toNat : Nat) : Int) * 2) = (((-(i + 1)).toNat : Nat) : Int) * 2 := by rw [IntWalk.u64_in _ (by omega)]
  have e5 : zig i = 2 * (-(i + 1)).toNat + 1 := by unfold zig; rw [if_pos h]
  rw [e1, e2, e3, e4, or_one _ (by omega), ← e5, var_eq _ hz]
  rfl
 ·rw [if_neg h]
  have e3 : IntKind.u64.wrap i = IntKind.u64.wrap i := rfl
  have e4 : IntKind.u64.wrap (IntKind.u64.wrap i * 2) = ((zig i : Nat) : Int) := by
   have : zig i = 2 * i.toNat := by unfold zig; rw [if_neg h]
   rw [IntWalk.u64_in i (by omega), IntWalk.u64_in _ (by omega), this]
   omega
  rw [e4, var_eq _ hz]
  rfl
def unintR (l : List UInt8) : Int × ByteArray × Int := match unvarL l with | none => (0, mkB [], 4) | some (n, r) => (unzig n, mkB r, 0)
theorem unint_eq (l : List UInt8) : pack_Unint.f (mkB l) = some (unintR l) := by
 unfold pack_Unint.f pack_Unvar.f
 rw [Option.bind_some, show (mkB l).data.toList = l from rfl]
 unfold unvarR unintR
 cases h : unvarL l with
 | none =>
  have := and_one 0 (by omega)
  simp only [show ((0 : Nat) : Int) = 0 from rfl] at this
  simp only [this]
  simp [wrap64]
 | some p =>
  obtain ⟨n, r⟩ := p
  have hn : n < 18446744073709551616 := (var_unvar h).2
  simp only [and_one n hn]
  have e1 : wrap64 ((n : Int) / 2) = (n : Int) / 2 := by unfold wrap64; omega
  have e2 : wrap64 (-((n : Int) / 2)) = -((n : Int) / 2) := by unfold wrap64; omega
  have e3 : wrap64 (-((n : Int) / 2) - 1) = -((n : Int) / 2) - 1 := by unfold wrap64; omega
  rw [e1, e2, e3]
  unfold unzig
  by_cases h2 : n % 2 = 1
  ·rw [if_pos (by omega), if_pos h2]
   simp
  ·rw [if_neg (by omega), if_neg h2]
   simp
theorem eqRec (k : Nat) (x0 x1 a b c d x8 x9 x10 x11 x12 x13 x14 y0 y1 a' b' c' d' y8 y9 y10 y11 y12 y13 y14 : Int) (l l' : List Int) (m m' : List (S90)) (h1 : l.length ≤ 1000) (h2 : m.length ≤ 1000) (k1 : l.length < k) (k2 : m.length < k) :
  sacristankit_EqualRec.f k x0 x1 a b c d l m x8 x9 x10 x11 x12 x13 x14 y0 y1 a' b' c' d' l' m' y8 y9 y10 y11 y12 y13 y14 = some (decide ((⟨x0, x1, spOf a b c d l m, x8, x9, x10, x11, x12, x13, x14⟩ : RE) = ⟨y0, y1, spOf a' b' c' d' l' m', y8, y9, y10, y11, y12, y13, y14⟩)) := by
 unfold sacristankit_EqualRec.f
 rw [eqSpec k a b c d a' b' c' d' l l' m m' h1 h2 k1 k2]
 simp only [Option.bind_some, RE.mk.injEq]
 grind
end Go.Proofs.YtkhcdichdnbcmaaR.PureC
namespace Go.Proofs.YtkhcdichdnbcmaaR
open Go.RowKit Go.Proofs.YtkhcdichdnbcmaaR Go.Proofs.YtkhcdichdnbcmaaR.Ext Go.Proofs.YtkhcdichdnbcmaaR.C Go.Proofs.YtkhcdichdnbcmaaR.Sp Go.Proofs.YtkhcdichdnbcmaaRW.PrintWords Go.Proofs.YtkhcdichdnbcmaaRW.PrintLast
set_option linter.unusedVariables false
set_option linter.unusedSimpArgs false
theorem equ15_s {w0 w : World} {L : List HP} (x0 x1 a b c d x8 x9 x10 x11 x12 x13 x14 y0 y1 a' b' c' d' y8 y9 y10 y11 y12 y13 y14 : Int) {A B A' B' : Option Addr} {n m p q n' m' p' q' : Nat} (ps ps' : List Int) (ts ts' : List TX) (hp : ps.length ≤ 1000) (ht : ts.length ≤ 1000) (r : Bool) (hr : decide ((⟨x0, x1, spOf a b c d ps ts, x8, x9, x10, x11, x12, x13, x14⟩ : RE) = ⟨y0, y1, spOf a' b' c' d' ps' ts', y8, y9, y10, y11, y12, y13, y14⟩) = r)
  (h : St w0 w (RI (.slice A n p) ps :: RT (.slice B m q) ts :: RI (.slice A' n' p') ps' :: RT (.slice B' m' q') ts' :: L)) :
  Calls Try.prog 25 #[.agg (Rec15 x0 x1 a b c d A n p B m q x8 x9 x10 x11 x12 x13 x14), .agg (Rec15 y0 y1 a' b' c' d' A' n' p' B' m' q' y8 y9 y10 y11 y12 y13 y14)] w fun e w' => e = .returned (.bool r) ∧ St w0 w' (RI (.slice A n p) ps :: RT (.slice B m q) ts :: RI (.slice A' n' p') ps' :: RT (.slice B' m' q') ts' :: L) := by
 obtain ⟨c1, e1, l1⟩ := h.rowKC
 obtain ⟨c2, e2, l2⟩ := (h.pick 1).rowKC
 obtain ⟨c3, e3, l3⟩ := (h.pick 2).rowKC
 obtain ⟨c4, e4, l4⟩ := (h.pick 3).rowKC
 subst e1; subst e2; subst e3; subst e4; subst hr
 refine (sacristankit_EqualRec.calls 1001 x0 x1 a b c d A p ps B q ts x8 x9 x10 x11 x12 x13 x14 y0 y1 a' b' c' d' A' p' ps' B' q' ts' y8 y9 y10 y11 y12 y13 y14 _ w c1 l1 c2 l2 c3 l3 c4 l4 (PureC.eqRec 1001 _ _ _ _ _ _ _ _ _ _ _ _ _ _ _ _ _ _ _ _ _ _ _ _ _ _ _ _ _ _ hp ht (by omega) (by omega))).mono ?_
 rintro e w' ⟨rfl, hb⟩
 exact ⟨rfl, h.more hb⟩
theorem equ15_n {w0 w : World} {L : List HP} (x0 x1 a b c d x8 x9 x10 x11 x12 x13 x14 y0 y1 y8 y9 y10 y11 y12 y13 y14 : Int) {A B : Option Addr} {n m p q : Nat} (ps : List Int) (ts : List TX) (hp : ps.length ≤ 1000) (ht : ts.length ≤ 1000) (r : Bool) (hr : decide ((⟨x0, x1, spOf a b c d ps ts, x8, x9, x10, x11, x12, x13, x14⟩ : RE) = ⟨y0, y1, zSP, y8, y9, y10, y11, y12, y13, y14⟩) = r)
  (h : St w0 w (RI (.slice A n p) ps :: RT (.slice B m q) ts :: L)) :
  Calls Try.prog 25 #[.agg (Rec15 x0 x1 a b c d A n p B m q x8 x9 x10 x11 x12 x13 x14), .agg (Rec15 y0 y1 0 0 0 0 none 0 0 none 0 0 y8 y9 y10 y11 y12 y13 y14)] w fun e w' => e = .returned (.bool r) ∧ St w0 w' (RI (.slice A n p) ps :: RT (.slice B m q) ts :: L) := by
 obtain ⟨c1, e1, l1⟩ := h.rowKC
 obtain ⟨c2, e2, l2⟩ := (h.pick 1).rowKC
 subst e1; subst e2; subst hr
 refine (sacristankit_EqualRec.calls 1001 x0 x1 a b c d A p ps B q ts x8 x9 x10 x11 x12 x13 x14 y0 y1 0 0 0 0 none 0 [] none 0 [] y8 y9 y10 y11 y12 y13 y14 _ w c1 l1 c2 l2 (Kd.C_nil _ _) (Nat.le_refl _) (Kd.C_nil _ _) (Nat.le_refl _) (PureC.eqRec 1001 _ _ _ _ _ _ _ _ _ _ _ _ _ _ _ _ _ _ _ _ _ _ _ _ _ _ _ _ _ _ hp ht (by omega) (by omega))).mono ?_
 rintro e w' ⟨rfl, hb⟩
 exact ⟨rfl, h.more hb⟩
theorem str_var {w0 : World} (x : Int) (h0 : 0 ≤ x) (h1 : x < 18446744073709551616) : Str w0 33 #[.int .u64 x] (encN x) := by
 intro W M h
 obtain ⟨k, rfl⟩ := Int.eq_ofNat_of_zero_le h0
 refine (var_c k (by omega) W).mono ?_
 rintro ee w' ⟨rfl, hb⟩
 exact ⟨by simp [encN], h.more hb⟩
theorem str_int {w0 : World} (x : Int) (h0 : -9223372036854775808 ≤ x) (h1 : x ≤ 9223372036854775807) : Str w0 38 #[.int .i64 x] (encI x) := by
 intro W M h
 refine (pack_Int.calls x _ W (PureC.int_eq x h0 h1)).mono ?_
 rintro ee w' ⟨rfl, hb⟩
 exact ⟨rfl, h.more hb⟩
def accJ (r : RE) (j : Nat) : List UInt8 := encN r.kind ++ (List.range j).flatMap fun i => if usJ r.kind i = true then encN (vJ r i) else []
theorem accJ_0 (r : RE) : accJ r 0 = encN r.kind := by simp [accJ]
theorem accJ_s (r : RE) (j : Nat) : accJ r (j + 1) = if usJ r.kind j = true then accJ r j ++ encN (vJ r j) else accJ r j := by
 unfold accJ
 rw [List.range_succ, List.flatMap_append]
 split <;> simp [*]
theorem accJ_7 (r : RE) : accJ r 7 = encN r.kind ++ encF (fldK r.kind) (valsR r) := by
 unfold accJ fldK usJ vJ
 obtain ⟨a, b, c, d, e, f, g, hu⟩ := seven (usesB_len r.kind)
 rw [hu]
 have hr : List.range 7 = [0, 1, 2, 3, 4, 5, 6] := rfl
 rw [hr]
 simp [mostsR, valsR, encF]
theorem accJ_len (r : RE) (hk : r.kind ≤ 9) (hv : ∀ j, j < 7 → vJ r j ≤ 9223372036854775807) : ∀ j, j ≤ 7 → (accJ r j).length ≤ 9 + 9 * j
 | 0, _ => by rw [accJ_0]; have := Go.Proofs.YtkhcdichdnbcmaaR.encN_9 (n := r.kind) (by omega); omega
 | j + 1, hj => by
  have h1 := accJ_len r hk hv j (by omega)
  have h2 := Go.Proofs.YtkhcdichdnbcmaaR.encN_9 (hv j (by omega))
  rw [accJ_s]
  split
  ·rw [List.length_append]; omega
  ·omega
theorem most_le (j : Nat) (h : j < 7) : mostJ j ≤ 1099511627776 := by
 have : j = 0 ∨ j = 1 ∨ j = 2 ∨ j = 3 ∨ j = 4 ∨ j = 5 ∨ j = 6 := by omega
 rcases this with rfl | rfl | rfl | rfl | rfl | rfl | rfl <;> decide
theorem okRec (r : RE) (h : recE r = 0) : (1 ≤ r.kind ∧ r.kind ≤ 9) ∧ (∀ j, j < 7 → 0 ≤ vJ r j ∧ vJ r j ≤ 1099511627776) ∧ (r.kind = 1 → specE r.spec = 0) := by
 unfold recE at h
 split at h
 ·cases h
 rename_i hs
 split at h
 ·cases h
 rename_i ha
 split at h
 ·cases h
 rename_i hb
 have hs : shapeR r = true := by simpa using hs
 unfold shapeR at hs
 simp only [Bool.and_eq_true, Bool.or_eq_true, decide_eq_true_eq] at hs
 have ha := (badA_iff r).1 (by simpa using ha)
 have hb := (badB_iff r).1 (by simpa using hb)
 refine ⟨hs.1.1, fun j hj => ?_, fun hk => by rw [if_pos hk] at h; exact h⟩
 have h1 := ha j hj
 have h2 := hb j hj
 have h3 := most_le j hj
 unfold zeroV at h1
 cases hu : usJ r.kind j with
 | true => have := h2 hu; omega
 | false => rw [hu] at h1; simp at h1; omega
theorem renc15_s {w0 w : World} {L : List HP} (kind e a b c d id task tick wait pid nonce code : Int) {A B : Option Addr} {n m p q : Nat} (ps : List Int) (ts : List TX) (hcr : -9223372036854775808 ≤ code ∧ code ≤ 9223372036854775807) (h : St w0 w (RI (.slice A n p) ps :: RT (.slice B m q) ts :: L)) (x : List UInt8) (r : Int) (hx : encRR ⟨kind, e, spOf a b c d ps ts, id, task, tick, wait, pid, nonce, code⟩ = x) (hr : recE ⟨kind, e, spOf a b c d ps ts, id, task, tick, wait, pid, nonce, code⟩ = r) :
  Calls Try.prog 14 #[.agg (Rec15 kind e a b c d A n p B m q id task tick wait pid nonce code)] w fun ee w' => ee = .returned (.tuple #[.string (YtkhcdichdnbcmaaR.Ext.mkB x), .int .i64 r]) ∧ St w0 w' (RI (.slice A n p) ps :: RT (.slice B m q) ts :: L) := by
 have hK := fun W M (hs : St w0 W (RI (.slice A n p) ps :: RT (.slice B m q) ts :: M)) => rchk15_s kind e a b c d id task tick wait pid nonce code ps ts hs r hr
 obtain ⟨y, hy⟩ : ∃ y : RE, y = ⟨kind, e, spOf a b c d ps ts, id, task, tick, wait, pid, nonce, code⟩ := ⟨_, rfl⟩
 rw [← hy] at hx hr
 have yk : y.kind = kind := by rw [hy]
 have ys : y.spec = spOf a b c d ps ts := by rw [hy]
 have yc : y.code = code := by rw [hy]
 by_cases h0 : r = 0
 case neg =>
  have : x = [] := by rw [← hx]; unfold encRR; rw [if_neg (by rw [hr]; exact h0)]
  subst this
  exact renc15_no kind e a b c d id task tick wait pid nonce code A B n m p q ps ts r h0 hK h
 subst h0
 obtain ⟨hk, hvs, hsp⟩ := okRec y hr
 rw [yk] at hk
 rw [yk, ys] at hsp
 obtain ⟨hf, hC, hS, hB⟩ := and_all kind hk
 refine renc15 kind e a b c d id task tick wait pid nonce code A B n m p q ps ts (usesF kind) (usJ kind) (decide (kind = 1)) (decide (kind = 8)) (vJ y) (encN kind) (if kind = 1 then encS (spOf a b c d ps ts) else []) (encI code) x (fun j => encN (vJ y j)) (accJ y) ?_ (uses_s kind) hC hS hB hk hK ?_ (str_var kind (by omega) (by omega)) (str_int code hcr.1 hcr.2) ?_ ?_ ?_ ?_ ?_ ?_ ?_ ?_ h
 ·rw [all7]
  subst hy
  exact ⟨rfl, rfl, rfl, rfl, rfl, rfl, rfl⟩
 ·intro h1
  have h1 : kind = 1 := by simpa using h1
  have hs0 := hsp h1
  intro W M hs
  obtain ⟨c1, e1, l1⟩ := hs.rowKC
  obtain ⟨c2, e2, l2⟩ := (hs.pick 1).rowKC
  subst e1; subst e2
  refine (spec_Encode.calls a b c d A p ps B q ts _ _ W c1 l1 c2 l2 rfl).mono ?_
  rintro ee w' ⟨rfl, hb⟩
  have hen : Go.Proofs.YtkhcdichdnbcmaaR.encR (spOf a b c d ps ts) = encS (spOf a b c d ps ts) := by unfold Go.Proofs.YtkhcdichdnbcmaaR.encR; rw [if_pos hs0]
  exact ⟨by rw [if_pos h1, hs0, hen], hs.more hb⟩
 ·intro j hj hu
  have := hvs j hj
  exact ⟨⟨this.1, by omega⟩, str_var _ this.1 (by omega)⟩
 ·rw [accJ_0, yk]
 ·intro j hj
  rw [accJ_s, yk]
 ·intro j hj
  have h1 := accJ_len y (by omega) (fun j hj => by have := (hvs j hj).2; omega) j hj
  refine ⟨by omega, ?_⟩
  rcases Nat.lt_or_ge j 7 with h7 | h7
  ·have := Go.Proofs.YtkhcdichdnbcmaaR.encN_9 (n := vJ y j) (by have := (hvs j h7).2; omega)
   omega
  ·have h7 : j = 7 := by omega
   subst h7
   have : vJ y 7 = 0 := rfl
   rw [this]
   decide
 ·split
  ·rename_i h1
   have : okS (spOf a b c d ps ts) = true := by unfold okS; exact decide_eq_true (hsp h1)
   have := encS_length (okS_gS this)
   omega
  ·simp
 ·have := (Pk.varL_length _ (Pk.zig_lt hcr.1 hcr.2)).2
  show (Pk.varL (Pk.zig code)).length ≤ 1000
  omega
 ·simp only [decide_eq_true_eq]
  omega
 ·rw [← hx]
  unfold encRR encRe tailRW
  rw [if_pos hr, accJ_7, yk, ys, yc]
  by_cases h1 : kind = 1
  ·simp [h1]
  ·by_cases h8 : kind = 8 <;> simp [h1, h8]
end Go.Proofs.YtkhcdichdnbcmaaR
end
section
namespace Go.Proofs.YtkhcdichdnbcmaaR
open Go.RowKit Go.Proofs.YtkhcdichdnbcmaaR Go.Proofs.YtkhcdichdnbcmaaR.Ext Go.Proofs.YtkhcdichdnbcmaaR.C Go.Proofs.YtkhcdichdnbcmaaR.Sp Go.Proofs.YtkhcdichdnbcmaaRW.PrintWords Go.Proofs.YtkhcdichdnbcmaaRW.PrintLast
set_option linter.unusedVariables false
set_option linter.unusedSimpArgs false
def Unv (w0 : World) (bs : List UInt8) (n : Int) (r : List UInt8) (er : Int) : Prop := ∀ W M, St w0 W M → Calls Try.prog 47 #[.string (YtkhcdichdnbcmaaR.Ext.mkB bs)] W fun ee w' => ee = .returned (.tuple #[.int .u64 n, .string (YtkhcdichdnbcmaaR.Ext.mkB r), .int .i64 er]) ∧ St w0 w' M
def Uni (w0 : World) (bs : List UInt8) (n : Int) (r : List UInt8) (er : Int) : Prop := ∀ W M, St w0 W M → Calls Try.prog 48 #[.string (YtkhcdichdnbcmaaR.Ext.mkB bs)] W fun ee w' => ee = .returned (.tuple #[.int .i64 n, .string (YtkhcdichdnbcmaaR.Ext.mkB r), .int .i64 er]) ∧ St w0 w' M
theorem emp_t (r : List UInt8) (h : r = []) : ((YtkhcdichdnbcmaaR.Ext.mkB r).toList == ([] : List UInt8)) = true ∧ ((YtkhcdichdnbcmaaR.Ext.mkB r).toList != ([] : List UInt8)) = false := by rw [toList_mkB]; subst h; exact ⟨rfl, rfl⟩
theorem emp_f (r : List UInt8) (h : ¬ r = []) : ((YtkhcdichdnbcmaaR.Ext.mkB r).toList == ([] : List UInt8)) = false ∧ ((YtkhcdichdnbcmaaR.Ext.mkB r).toList != ([] : List UInt8)) = true := by rw [toList_mkB]; exact ⟨beq_eq_false_iff_ne.mpr h, bne_iff_ne.mpr h⟩
theorem most_ge (j : Nat) (h : j < 7) : 0 ≤ mostJ j := by
 have : j = 0 ∨ j = 1 ∨ j = 2 ∨ j = 3 ∨ j = 4 ∨ j = 5 ∨ j = 6 := by omega
 rcases this with rfl | rfl | rfl | rfl | rfl | rfl | rfl <;> decide
theorem ne_t {x : Int} (h : ¬ x = 0) : (x != 0) = true ∧ (x == 0) = false := ⟨bne_iff_ne.mpr h, beq_eq_false_iff_ne.mpr h⟩
set_option maxRecDepth 100000 in
set_option maxHeartbeats 1000000 in
theorem rdec_k {w0 w : World} {L : List HP} (l : List UInt8) (nk : Int) (r1 : List UInt8) (er : Int) (hb : er ≠ 0 ∨ 9 < nk) (H1 : Unv w0 l nk r1 er) (h : St w0 w L) :
  Calls Try.prog 23 #[.string (YtkhcdichdnbcmaaR.Ext.mkB l)] w fun ee w' => ee = .returned (.tuple #[.agg #[.int .u8 0, .int .i64 0, .int .i64 0, .int .i64 0, .int .i64 0, .int .i64 0, .slice none 0 0, .slice none 0 0, .int .i64 0, .int .i64 0, .int .i64 0, .int .i64 0, .int .i64 0, .int .i64 0, .int .i64 0], .int .i64 4]) ∧ St w0 w' L := by
 have s0 := h.alloc #[.int .u8 0, .int .i64 0, .int .i64 0, .int .i64 0, .int .i64 0, .int .i64 0, .slice none 0 0, .slice none 0 0, .int .i64 0, .int .i64 0, .int .i64 0, .int .i64 0, .int .i64 0, .int .i64 0, .int .i64 0] tRe
 clear h
 have S0 := Lib.hid s0
 clear s0
 have HU := Lib.hid H1
 clear H1
 go_enter Try.func23, Try.ntmps23
 go_wp2_with fail
 generalize w.heap.size = b2 at *
 refine (HU.out _ _ S0.out).mono ?_
 rintro ee w1 ⟨rfl, s1⟩
 clear S0 HU
 have S1 := Lib.hid s1
 clear s1
 by_cases he : er = 0
 ·subst he
  have hn : 9 < nk := by omega
  have g3 := decide_eq_true hn
  clear hn hb
  go_wp2_with (first | ((with_reducible refine wpList_storeSt S1.out rfl _ _ 35 rfl 0 #[.int .u8 0, .int .i64 0, .int .i64 0, .int .i64 0, .int .i64 0, .int .i64 0, .slice none 0 0, .slice none 0 0, .int .i64 0, .int .i64 0, .int .i64 0, .int .i64 0, .int .i64 0, .int .i64 0, .int .i64 0] #[.int .u8 0, .int .i64 0, .int .i64 0, .int .i64 0, .int .i64 0, .int .i64 0, .slice none 0 0, .slice none 0 0, .int .i64 0, .int .i64 0, .int .i64 0, .int .i64 0, .int .i64 0, .int .i64 0, .int .i64 0] size_rec ?hn ?hx ?hv ?hf ?h1 ?he ?_); (case hn => rfl); (case hx => rfl); (case hv => rfl); (case hf => simp); (case h1 => simp [Value.oneCell']); (case he => rfl); intro wz sz; have hcz := sz.cells; have hfz := sz.free; have SZ := Lib.hid sz; clear sz) | fail)
  refine bodyPost_ret (v := .tuple #[.agg #[.int .u8 0, .int .i64 0, .int .i64 0, .int .i64 0, .int .i64 0, .int .i64 0, .slice none 0 0, .slice none 0 0, .int .i64 0, .int .i64 0, .int .i64 0, .int .i64 0, .int .i64 0, .int .i64 0, .int .i64 0], .int .i64 4]) (by simp [results, Try.results23, go_sem, hcz]) rfl ?_
  exact ⟨rfl, SZ.out.drop⟩
 ·obtain ⟨g1, g2⟩ := ne_t he
  clear he hb
  go_wp2_with (first | ((with_reducible refine wpList_storeSt S1.out rfl _ _ 35 rfl 0 #[.int .u8 0, .int .i64 0, .int .i64 0, .int .i64 0, .int .i64 0, .int .i64 0, .slice none 0 0, .slice none 0 0, .int .i64 0, .int .i64 0, .int .i64 0, .int .i64 0, .int .i64 0, .int .i64 0, .int .i64 0] #[.int .u8 0, .int .i64 0, .int .i64 0, .int .i64 0, .int .i64 0, .int .i64 0, .slice none 0 0, .slice none 0 0, .int .i64 0, .int .i64 0, .int .i64 0, .int .i64 0, .int .i64 0, .int .i64 0, .int .i64 0] size_rec ?hn ?hx ?hv ?hf ?h1 ?he ?_); (case hn => rfl); (case hx => rfl); (case hv => rfl); (case hf => simp); (case h1 => simp [Value.oneCell']); (case he => rfl); intro wz sz; have hcz := sz.cells; have hfz := sz.free; have SZ := Lib.hid sz; clear sz) | fail)
  refine bodyPost_ret (v := .tuple #[.agg #[.int .u8 0, .int .i64 0, .int .i64 0, .int .i64 0, .int .i64 0, .int .i64 0, .slice none 0 0, .slice none 0 0, .int .i64 0, .int .i64 0, .int .i64 0, .int .i64 0, .int .i64 0, .int .i64 0, .int .i64 0], .int .i64 4]) (by simp [results, Try.results23, go_sem, hcz]) rfl ?_
  exact ⟨rfl, SZ.out.drop⟩
end Go.Proofs.YtkhcdichdnbcmaaR
end
section
namespace Go.Proofs.YtkhcdichdnbcmaaR
end Go.Proofs.YtkhcdichdnbcmaaR
end
