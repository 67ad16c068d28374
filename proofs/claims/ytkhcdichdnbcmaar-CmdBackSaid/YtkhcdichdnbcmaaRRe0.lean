/- Plain mathematics of records as bytes: what is valid, what is written, what is read; each is the other's inverse. No program in sight. -/
import Derived.Test.YtkhcdichdnbcmaaRCm0
namespace Go.Proofs.YtkhcdichdnbcmaaR.Sp
open Go.Proofs.YtkhcdichdnbcmaaR.Pk
set_option linter.unusedVariables false
set_option linter.unusedSimpArgs false

structure RE where
  kind : Int
  epoch : Int
  spec : SP
  id : Int
  task : Int
  tick : Int
  wait : Int
  pid : Int
  nonce : Int
  code : Int
deriving DecidableEq
def zRE : RE := ⟨0, 0, zSP, 0, 0, 0, 0, 0, 0, 0⟩
def T40 : Int := 1099511627776
/-- Which of Epoch, ID, Task, Tick, Wait, Pid, Nonce a kind uses. -/
def usesB (k : Int) : List Bool :=
  if k = 1 then [true, false, false, false, false, false, false] else
  if k = 2 then [true, true, false, true, true, false, false] else
  if k = 3 then [true, true, false, false, false, false, false] else
  if k = 4 then [false, true, true, true, false, false, false] else
  if k = 5 then [false, true, true, false, false, true, true] else
  if k = 6 then [false, true, true, false, false, false, false] else
  if k = 7 then [false, true, true, false, false, false, false] else
  if k = 8 then [false, true, true, true, false, false, false] else
  if k = 9 then [false, false, false, true, false, false, false] else [false, false, false, false, false, false, false]
def mostsR : List Int := [1099511627776, 2147483648, 3, 1099511627776, 1099511627776, 1099511627776, 1099511627776]
def valsR (r : RE) : List Int := [r.epoch, r.id, r.task, r.tick, r.wait, r.pid, r.nonce]
/-- The fields of a kind: are they used, and the greatest value. -/
def fldK (k : Int) : List (Bool × Int) := (usesB k).zip mostsR
def badA : List (Bool × Int) → List Int → Bool
  | (u, m) :: t, v :: vs => (!u && decide (v ≠ 0)) || badA t vs
  | _, _ => false
def badB : List (Bool × Int) → List Int → Bool
  | (u, m) :: t, v :: vs => (u && (decide (v < 0) || decide (m < v))) || badB t vs
  | _, _ => false
def shapeR (r : RE) : Bool := decide (1 ≤ r.kind ∧ r.kind ≤ 9) && (decide (r.kind = 8) || decide (r.code = 0)) && (decide (r.kind = 1) || decide (r.spec = zSP))
def recE (r : RE) : Int := if shapeR r = false then 2 else if badA (fldK r.kind) (valsR r) = true then 2 else if badB (fldK r.kind) (valsR r) = true then 3 else if r.kind = 1 then specE r.spec else 0
def encF : List (Bool × Int) → List Int → List UInt8
  | (u, m) :: t, v :: vs => (if u = true then encN v else []) ++ encF t vs
  | _, _ => []
def encI (i : Int) : List UInt8 := varL (zig i)
def tailRW (k : Int) (x : SP × Int) : List UInt8 := if k = 1 then encS x.1 else if k = 8 then encI x.2 else []
def encRe (r : RE) : List UInt8 := (encN r.kind ++ encF (fldK r.kind) (valsR r)) ++ tailRW r.kind (r.spec, r.code)
def fP : List (Bool × Int) → List UInt8 → Option (List Int × List UInt8)
  | [], l => some ([], l)
  | (u, m) :: t, l => if u = true then (numL m l).bind fun x => (fP t x.2).map fun y => (x.1 :: y.1, y.2) else (fP t l).map fun y => (0 :: y.1, y.2)
def gF : List (Bool × Int) → List Int → Prop
  | (u, m) :: t, v :: vs => (if u = true then 0 ≤ v ∧ v ≤ m else v = 0) ∧ gF t vs
  | [], [] => True
  | _, _ => False
theorem fP_codec (s : List (Bool × Int)) (hs : ∀ x ∈ s, x.2 < 18446744073709551616) : Codec (fP s) (gF s) (encF s) := by
  induction s with
  | nil =>
    intro l a r
    simp only [fP, Option.some.injEq, Prod.mk.injEq]
    constructor
    · rintro ⟨rfl, rfl⟩
      exact ⟨trivial, rfl⟩
    · rintro ⟨hg, he⟩
      cases a with
      | nil => exact ⟨rfl, by simpa [encF] using he.symm⟩
      | cons a b => exact absurd hg (by simp [gF])
  | cons x t ih =>
    obtain ⟨u, m⟩ := x
    have ih := ih (fun x hx => hs x (List.mem_cons_of_mem _ hx))
    have hm : m < 18446744073709551616 := hs (u, m) (List.mem_cons_self ..)
    intro l a r
    cases u with
    | true =>
      simp only [fP, if_true, Option.bind_eq_some_iff, Option.map_eq_some_iff, Prod.mk.injEq]
      constructor
      · rintro ⟨⟨n, l'⟩, h1, ⟨⟨ns, l''⟩, h2, rfl, rfl⟩⟩
        obtain ⟨h3, h4⟩ := (num_codec hm _ _ _).1 h1
        obtain ⟨h5, h6⟩ := (ih _ _ _).1 h2
        refine ⟨⟨by simpa using h3, h5⟩, ?_⟩
        simp only [encF, if_true, List.append_assoc]
        rw [h6]
        exact h4
      · rintro ⟨hg, he⟩
        cases a with
        | nil => exact absurd hg (by simp [gF])
        | cons v vs =>
          obtain ⟨h1, h2⟩ := hg
          simp only [if_true] at h1
          simp only [encF, if_true, List.append_assoc] at he
          exact ⟨(v, encF t vs ++ r), (num_codec hm _ _ _).2 ⟨h1, he⟩, (vs, r), (ih _ _ _).2 ⟨h2, rfl⟩, rfl, rfl⟩
    | false =>
      simp only [fP, Bool.false_eq_true, if_false, Option.map_eq_some_iff, Prod.mk.injEq]
      constructor
      · rintro ⟨⟨ns, l''⟩, h2, rfl, rfl⟩
        obtain ⟨h5, h6⟩ := (ih _ _ _).1 h2
        refine ⟨⟨by simp, h5⟩, ?_⟩
        simpa only [encF, Bool.false_eq_true, if_false, List.nil_append] using h6
      · rintro ⟨hg, he⟩
        cases a with
        | nil => exact absurd hg (by simp [gF])
        | cons v vs =>
          obtain ⟨h1, h2⟩ := hg
          simp only [Bool.false_eq_true, if_false] at h1
          subst h1
          simp only [encF, Bool.false_eq_true, if_false, List.nil_append] at he
          exact ⟨(vs, r), (ih _ _ _).2 ⟨h2, he⟩, rfl, rfl⟩
def unintL (l : List UInt8) : Option (Int × List UInt8) := (unvarL l).map fun x => (unzig x.1, x.2)
theorem int_codec : Codec unintL (fun i => -9223372036854775808 ≤ i ∧ i ≤ 9223372036854775807) encI := by
  intro l i r
  simp only [unintL, Option.map_eq_some_iff, Prod.mk.injEq, encI]
  constructor
  · rintro ⟨⟨n, r'⟩, h1, rfl, rfl⟩
    obtain ⟨h2, h3⟩ := var_unvar h1
    exact ⟨unzig_bd h3, by rw [zig_unzig]; exact h2⟩
  · rintro ⟨⟨h1, h2⟩, h3⟩
    exact ⟨(zig i, r), by rw [← h3, unvar_var (zig_lt h1 h2)], unzig_zig i, rfl⟩
def tailRP (k : Int) (l : List UInt8) : Option ((SP × Int) × List UInt8) := if k = 1 then (decS l).map fun x => ((x.1, 0), x.2) else if k = 8 then (unintL l).map fun x => ((zSP, x.1), x.2) else some ((zSP, 0), l)
def tailRG (k : Int) (x : SP × Int) : Prop := if k = 1 then okS x.1 = true ∧ x.2 = 0 else if k = 8 then x.1 = zSP ∧ -9223372036854775808 ≤ x.2 ∧ x.2 ≤ 9223372036854775807 else x.1 = zSP ∧ x.2 = 0
theorem tailR_codec (k : Int) : Codec (tailRP k) (tailRG k) (tailRW k) := by
  intro l ⟨s, i⟩ r
  unfold tailRP tailRG tailRW
  by_cases hk : k = 1
  · simp only [if_pos hk, Option.map_eq_some_iff, Prod.mk.injEq]
    constructor
    · rintro ⟨⟨a, r'⟩, h1, ⟨rfl, rfl⟩, rfl⟩
      obtain ⟨h2, h3⟩ := (decS_codec _ _ _).1 h1
      exact ⟨⟨h2, rfl⟩, h3⟩
    · rintro ⟨⟨h1, rfl⟩, h2⟩
      exact ⟨(s, r), (decS_codec _ _ _).2 ⟨h1, h2⟩, ⟨rfl, rfl⟩, rfl⟩
  · by_cases hk8 : k = 8
    · simp only [if_neg hk, if_pos hk8, Option.map_eq_some_iff, Prod.mk.injEq]
      constructor
      · rintro ⟨⟨a, r'⟩, h1, ⟨rfl, rfl⟩, rfl⟩
        obtain ⟨h2, h3⟩ := (int_codec _ _ _).1 h1
        exact ⟨⟨rfl, h2⟩, h3⟩
      · rintro ⟨⟨rfl, h1⟩, h2⟩
        exact ⟨(i, r), (int_codec _ _ _).2 ⟨h1, h2⟩, ⟨rfl, rfl⟩, rfl⟩
    · simp only [if_neg hk, if_neg hk8, Option.some.injEq, Prod.mk.injEq, List.nil_append]
      constructor
      · rintro ⟨⟨rfl, rfl⟩, rfl⟩
        exact ⟨⟨rfl, rfl⟩, rfl⟩
      · rintro ⟨⟨rfl, rfl⟩, rfl⟩
        exact ⟨⟨rfl, rfl⟩, rfl⟩
def headRP : List UInt8 → Option ((Int × List Int) × List UInt8) := seqP (numL 9) fun k => fP (fldK k)
def wholeRP : List UInt8 → Option (((Int × List Int) × (SP × Int)) × List UInt8) := seqP headRP fun x => tailRP x.1
def toRE (x : (Int × List Int) × (SP × Int)) : RE := ⟨x.1.1, x.1.2.getD 0 0, x.2.1, x.1.2.getD 1 0, x.1.2.getD 2 0, x.1.2.getD 3 0, x.1.2.getD 4 0, x.1.2.getD 5 0, x.1.2.getD 6 0, x.2.2⟩
def ofRE (r : RE) : (Int × List Int) × (SP × Int) := ((r.kind, valsR r), (r.spec, r.code))
def rdRe (l : List UInt8) : Option (RE × List UInt8) := (wholeRP l).map fun x => (toRE x.1, x.2)
def okRe (r : RE) : Bool := decide (recE r = 0)
def decRe (l : List UInt8) : Option (RE × List UInt8) := (rdRe l).bind fun x => if okRe x.1 = true then some x else none
def gRe (r : RE) : Prop := ((0 ≤ r.kind ∧ r.kind ≤ 9) ∧ gF (fldK r.kind) (valsR r)) ∧ tailRG r.kind (r.spec, r.code)
theorem usesB_len (k : Int) : (usesB k).length = 7 := by
  unfold usesB
  (repeat' split) <;> rfl
theorem fldK_len (k : Int) : (fldK k).length = 7 := by
  unfold fldK
  rw [List.length_zip, usesB_len]
  rfl
theorem fldK_most (k : Int) : ∀ x ∈ fldK k, x.2 < 18446744073709551616 := by
  intro x hx
  have : x.2 ∈ mostsR := (List.of_mem_zip (a := x.1) (b := x.2) hx).2
  simp only [mostsR, List.mem_cons, List.not_mem_nil, or_false] at this
  omega
theorem gF_len : ∀ {s : List (Bool × Int)} {l : List Int}, gF s l → l.length = s.length
  | [], [], _ => rfl
  | (u, m) :: t, v :: vs, h => by simp only [List.length_cons]; rw [gF_len h.2]
  | [], _ :: _, h => absurd h (by simp [gF])
  | _ :: _, [], h => absurd h (by simp [gF])
theorem vals7 {l : List Int} (h : l.length = 7) : [l.getD 0 0, l.getD 1 0, l.getD 2 0, l.getD 3 0, l.getD 4 0, l.getD 5 0, l.getD 6 0] = l := by
  match l, h with
  | [a, b, c, d, e, f, g], _ => rfl
theorem rdRe_codec : Codec rdRe gRe encRe := by
  have h1 : Codec headRP (fun x => (0 ≤ x.1 ∧ x.1 ≤ 9) ∧ gF (fldK x.1) x.2) (fun x => encN x.1 ++ encF (fldK x.1) x.2) :=
    Codec.seq (num_codec (by omega)) (fun a _ => fP_codec _ (fldK_most a))
  have h2 := Codec.seq h1 (q := fun x => tailRP x.1) (fun a _ => tailR_codec a.1)
  intro l x r
  simp only [rdRe, Option.map_eq_some_iff, Prod.mk.injEq]
  constructor
  · rintro ⟨⟨⟨⟨k, vs⟩, t⟩, r'⟩, h3, rfl, rfl⟩
    obtain ⟨h4, h5⟩ := (h2 _ _ _).1 h3
    have hv : valsR (toRE ((k, vs), t)) = vs := vals7 (by rw [gF_len h4.1.2, fldK_len])
    refine ⟨⟨⟨h4.1.1, ?_⟩, h4.2⟩, ?_⟩
    · rw [hv]; exact h4.1.2
    · unfold encRe
      rw [hv]
      exact h5
  · rintro ⟨hg, he⟩
    exact ⟨(ofRE x, r), (h2 _ _ _).2 ⟨hg, he⟩, rfl, rfl⟩
theorem gF_of : ∀ {s : List (Bool × Int)} {l : List Int}, l.length = s.length → badA s l = false → badB s l = false → gF s l
  | [], [], _, _, _ => trivial
  | (u, m) :: t, v :: vs, hl, ha, hb => by
    simp only [badA, badB, Bool.or_eq_false_iff] at ha hb
    refine ⟨?_, gF_of (by simpa using hl) ha.2 hb.2⟩
    cases u with
    | true => rw [if_pos rfl]; have := hb.1; simp at this; omega
    | false => rw [if_neg (by simp)]; have := ha.1; simpa using this
  | [], _ :: _, h, _, _ => absurd h (by simp)
  | _ :: _, [], h, _, _ => absurd h (by simp)
theorem gF_iff {s : List (Bool × Int)} {l : List Int} (hl : l.length = s.length) : gF s l ↔ badA s l = false ∧ badB s l = false := by
  refine ⟨fun h => ?_, fun h => gF_of hl h.1 h.2⟩
  induction s generalizing l with
  | nil => cases l <;> simp_all [badA, badB]
  | cons x t ih =>
    obtain ⟨u, m⟩ := x
    cases l with
    | nil => simp at hl
    | cons v vs =>
      have h2 := ih (by simpa using hl) h.2
      have h1 := h.1
      simp only [badA, badB, Bool.or_eq_false_iff]
      cases u with
      | true => rw [if_pos rfl] at h1; refine ⟨⟨by simp, h2.1⟩, ⟨by simp; omega, h2.2⟩⟩
      | false => rw [if_neg (by simp)] at h1; refine ⟨⟨by simp [h1], h2.1⟩, ⟨by simp, h2.2⟩⟩
theorem okRe_gRe {r : RE} (hc : -9223372036854775808 ≤ r.code ∧ r.code ≤ 9223372036854775807) (h : okRe r = true) : gRe r := by
  unfold okRe at h
  have h := of_decide_eq_true h
  unfold recE at h
  split at h
  · cases h
  rename_i hs
  split at h
  · cases h
  rename_i ha
  split at h
  · cases h
  rename_i hb
  have hs : shapeR r = true := by simpa using hs
  unfold shapeR at hs
  simp only [Bool.and_eq_true, Bool.or_eq_true, decide_eq_true_eq] at hs
  obtain ⟨⟨h1, h2⟩, h3⟩ := hs
  refine ⟨⟨⟨by omega, h1.2⟩, gF_of (by rw [fldK_len]; rfl) (by simpa using ha) (by simpa using hb)⟩, ?_⟩
  unfold tailRG
  by_cases hk : r.kind = 1
  · rw [if_pos hk] at h ⊢
    exact ⟨by unfold okS; exact decide_eq_true h, h2.resolve_left (by omega)⟩
  · rw [if_neg hk]
    have h3 := h3.resolve_left hk
    by_cases hk8 : r.kind = 8
    · rw [if_pos hk8]; exact ⟨h3, hc⟩
    · rw [if_neg hk8]; exact ⟨h3, h2.resolve_left hk8⟩
def goodRe (r : RE) : Prop := okRe r = true ∧ (-9223372036854775808 ≤ r.code ∧ r.code ≤ 9223372036854775807)
theorem decRe_codec : Codec decRe goodRe encRe := by
  intro l c r
  rw [show decRe l = (rdRe l).bind fun x => if okRe x.1 = true then some x else none from rfl, (Codec.guard rdRe_codec okRe) l c r]
  refine ⟨fun h => ⟨⟨h.1.2, ?_⟩, h.2⟩, fun h => ⟨⟨okRe_gRe h.1.2 h.1.1, h.1.1⟩, h.2⟩⟩
  have ht := h.1.1.2
  unfold tailRG at ht
  split at ht
  · have : c.code = 0 := ht.2
    omega
  · split at ht
    · exact ht.2
    · have : c.code = 0 := ht.2
      omega
def encRR (r : RE) : List UInt8 := if recE r = 0 then encRe r else []
def decRR (l : List UInt8) : RE × Int := match decRe l with | some (r, []) => (r, 0) | _ => (zRE, 4)
theorem decRR_codec (l : List UInt8) (r : RE) : decRR l = (r, 0) ↔ (goodRe r ∧ encRe r = l) := by
  unfold decRR
  split
  · rename_i c' hd
    obtain ⟨h1, h2⟩ := (decRe_codec _ _ _).1 hd
    rw [List.append_nil] at h2
    simp only [Prod.mk.injEq]
    constructor
    · rintro ⟨rfl, -⟩
      exact ⟨h1, h2⟩
    · rintro ⟨h3, h4⟩
      have := (decRe_codec.apart h1 h3 (r := []) (s := []) (by rw [h2, h4])).1
      exact ⟨this, trivial⟩
  · rename_i hd
    simp only [Prod.mk.injEq]
    constructor
    · rintro ⟨-, h⟩
      cases h
    · rintro ⟨h3, h4⟩
      exact absurd ((decRe_codec _ _ _).2 ⟨h3, by rw [List.append_nil]; exact h4⟩) (hd r)
theorem decRR_err (l : List UInt8) : (decRR l).2 ≠ 0 → decRR l = (zRE, 4) := by
  unfold decRR
  split
  · exact fun h => absurd rfl h
  · exact fun _ => rfl
theorem encF_len : ∀ {s : List (Bool × Int)} {l : List Int}, (∀ x ∈ s, x.2 ≤ 1099511627776) → gF s l → (encF s l).length ≤ 7 * s.length
  | [], [], _, _ => by simp [encF]
  | (u, m) :: t, v :: vs, hm, h => by
    have h2 := encF_len (fun x hx => hm x (List.mem_cons_of_mem _ hx)) h.2
    have h1 := h.1
    have h3 : m ≤ 1099511627776 := hm (u, m) (List.mem_cons_self ..)
    simp only [encF, List.length_append, List.length_cons]
    cases u with
    | true => rw [if_pos rfl] at h1 ⊢; have := encN_7 (n := v) (by omega); omega
    | false => rw [if_neg (by simp)]; simp; omega
  | [], _ :: _, _, h => absurd h (by simp [gF])
  | _ :: _, [], _, h => absurd h (by simp [gF])
theorem encRe_length {r : RE} (h : goodRe r) : (encRe r).length ≤ 220 := by
  have hg := okRe_gRe h.2 h.1
  obtain ⟨⟨hk, he⟩, ht⟩ := hg
  have hm : ∀ x ∈ fldK r.kind, x.2 ≤ 1099511627776 := by
    intro x hx
    have : x.2 ∈ mostsR := (List.of_mem_zip (a := x.1) (b := x.2) hx).2
    simp only [mostsR, List.mem_cons, List.not_mem_nil, or_false] at this
    omega
  have h1 := encN_1 (n := r.kind) (by omega)
  have h2 := encF_len hm he
  rw [fldK_len] at h2
  unfold encRe
  simp only [List.length_append]
  unfold tailRG at ht
  unfold tailRW
  split
  · rename_i hk1
    rw [if_pos hk1] at ht
    have : (encS r.spec).length ≤ 156 := encS_length (okS_gS ht.1)
    show _ + _ + (encS r.spec).length ≤ 220
    omega
  · split
    · have : (encI r.code).length ≤ 9 := (Pk.varL_length _ (zig_lt h.2.1 h.2.2)).2
      show _ + _ + (encI r.code).length ≤ 220
      omega
    · simp; omega
theorem encRe_pos {r : RE} : 1 ≤ (encRe r).length := by
  unfold encRe
  have := (encN_length r.kind).1
  simp only [List.length_append]
  omega
end Go.Proofs.YtkhcdichdnbcmaaR.Sp
