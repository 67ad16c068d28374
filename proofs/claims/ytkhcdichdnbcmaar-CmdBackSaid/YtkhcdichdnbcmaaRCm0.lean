/- Plain mathematics of commands as bytes: what is valid, what is written, what is read; each is the other's inverse. No program in sight. -/
import Derived.Test.YtkhcdichdnbcmaaRSp0
namespace Go.Proofs.YtkhcdichdnbcmaaR.Sp
open Go.Proofs.YtkhcdichdnbcmaaR.Pk
set_option linter.unusedVariables false
set_option linter.unusedSimpArgs false

structure CM where
  kind : Int
  epoch : Int
  spec : SP
  id : Int
deriving DecidableEq
abbrev zSP : SP := ⟨0, 0, 0, 0, [], []⟩
def zCM : CM := ⟨0, 0, zSP, 0⟩
/-- Does a command use the fields of its kind alone? -/
def shapeC (c : CM) : Prop := c.kind = 1 ∧ c.id = 0 ∨ (c.kind = 2 ∨ c.kind = 3) ∧ c.spec = zSP
instance (c : CM) : Decidable (shapeC c) := by unfold shapeC; infer_instance
def cmdE (c : CM) : Int :=
  if shapeC c then (if c.epoch < 0 ∨ 1099511627776 < c.epoch then 3 else if c.kind = 1 then specE c.spec else if c.id < 0 ∨ 2147483648 < c.id then 3 else 0) else 2
def encC (c : CM) : List UInt8 := encN c.kind ++ encN c.epoch ++ (if c.kind = 1 then encS c.spec else encN c.id)
/-- The last part: a specification or an identifier. -/
def tailP (k : Int) (l : List UInt8) : Option ((SP × Int) × List UInt8) := if k = 1 then (decS l).map fun x => ((x.1, 0), x.2) else (numL 2147483648 l).map fun x => ((zSP, x.1), x.2)
def tailG (k : Int) (x : SP × Int) : Prop := if k = 1 then okS x.1 = true ∧ x.2 = 0 else x.1 = zSP ∧ 0 ≤ x.2 ∧ x.2 ≤ 2147483648
def tailW (k : Int) (x : SP × Int) : List UInt8 := if k = 1 then encS x.1 else encN x.2
theorem tail_codec (k : Int) : Codec (tailP k) (tailG k) (tailW k) := by
  intro l ⟨s, i⟩ r
  unfold tailP tailG tailW
  by_cases hk : k = 1
  · simp only [if_pos hk, Option.map_eq_some_iff, Prod.mk.injEq]
    constructor
    · rintro ⟨⟨a, r'⟩, h1, ⟨rfl, rfl⟩, rfl⟩
      obtain ⟨h2, h3⟩ := (decS_codec _ _ _).1 h1
      exact ⟨⟨h2, rfl⟩, h3⟩
    · rintro ⟨⟨h1, rfl⟩, h2⟩
      exact ⟨(s, r), (decS_codec _ _ _).2 ⟨h1, h2⟩, ⟨rfl, rfl⟩, rfl⟩
  · simp only [if_neg hk, Option.map_eq_some_iff, Prod.mk.injEq]
    have hc := num_codec (most := 2147483648) (by omega)
    constructor
    · rintro ⟨⟨a, r'⟩, h1, ⟨rfl, rfl⟩, rfl⟩
      obtain ⟨h2, h3⟩ := (hc _ _ _).1 h1
      exact ⟨⟨rfl, h2⟩, h3⟩
    · rintro ⟨⟨rfl, h1⟩, h2⟩
      exact ⟨(i, r), (hc _ _ _).2 ⟨h1, h2⟩, ⟨rfl, rfl⟩, rfl⟩
def headP : List UInt8 → Option ((Int × Int) × List UInt8) := seqP (numL 3) fun _ => numL 1099511627776
def wholeP : List UInt8 → Option (((Int × Int) × (SP × Int)) × List UInt8) := seqP headP fun x => tailP x.1
def toCM (x : (Int × Int) × (SP × Int)) : CM := ⟨x.1.1, x.1.2, x.2.1, x.2.2⟩
def ofCM (c : CM) : (Int × Int) × (SP × Int) := ((c.kind, c.epoch), (c.spec, c.id))
def rdC (l : List UInt8) : Option (CM × List UInt8) := (wholeP l).map fun x => (toCM x.1, x.2)
def okC (c : CM) : Bool := decide (cmdE c = 0)
/-- What is read from bytes, and what is left behind it. -/
def decC (l : List UInt8) : Option (CM × List UInt8) := (rdC l).bind fun x => if okC x.1 = true then some x else none
def gC (c : CM) : Prop := ((0 ≤ c.kind ∧ c.kind ≤ 3) ∧ (0 ≤ c.epoch ∧ c.epoch ≤ 1099511627776)) ∧ tailG c.kind (c.spec, c.id)
theorem rdC_codec : Codec rdC gC encC := by
  have h1 : Codec headP (fun x => (0 ≤ x.1 ∧ x.1 ≤ 3) ∧ (0 ≤ x.2 ∧ x.2 ≤ 1099511627776)) (fun x => encN x.1 ++ encN x.2) :=
    Codec.seq (num_codec (by omega)) (fun a _ => num_codec (by omega))
  have h2 := Codec.seq h1 (q := fun x => tailP x.1) (fun a _ => tail_codec a.1)
  exact Codec.map h2 toCM ofCM (fun _ => rfl) (fun _ => rfl)
theorem okC_gC {c : CM} (h : okC c = true) : gC c := by
  unfold okC at h
  have h := of_decide_eq_true h
  unfold cmdE at h
  split at h
  case isFalse => cases h
  rename_i hs
  split at h
  · cases h
  rename_i he
  unfold shapeC at hs
  refine ⟨⟨by omega, by omega⟩, ?_⟩
  unfold tailG
  split at h
  · rename_i hk
    rw [if_pos hk]
    exact ⟨by unfold okS; exact decide_eq_true h, by omega⟩
  · rename_i hk
    split at h
    · cases h
    rw [if_neg hk]
    rcases hs with hs | hs
    · exact absurd hs.1 hk
    · exact ⟨hs.2, by omega, by omega⟩
theorem decC_codec : Codec decC (fun c => okC c = true) encC := by
  intro l c r
  rw [show decC l = (rdC l).bind fun x => if okC x.1 = true then some x else none from rfl, (Codec.guard rdC_codec okC) l c r]
  exact ⟨fun h => ⟨h.1.2, h.2⟩, fun h => ⟨⟨okC_gC h.1, h.1⟩, h.2⟩⟩
theorem okC_iff (c : CM) : okC c = true ↔ cmdE c = 0 := by unfold okC; exact decide_eq_true_iff
/-- What Encode returns, and what Decode returns. -/
def encCR (c : CM) : List UInt8 := if cmdE c = 0 then encC c else []
def decCR (l : List UInt8) : CM × Int := if 1024 < l.length then (zCM, 5) else match decC l with | some (c, []) => (c, 0) | _ => (zCM, 4)
theorem decCR_codec (l : List UInt8) (c : CM) : decCR l = (c, 0) ↔ (l.length ≤ 1024 ∧ okC c = true ∧ encC c = l) := by
  unfold decCR
  split
  · simp only [Prod.mk.injEq]
    exact ⟨fun h => absurd h.2 (by decide), fun h => by omega⟩
  · split
    · rename_i c' hd
      obtain ⟨h1, h2⟩ := (decC_codec _ _ _).1 hd
      rw [List.append_nil] at h2
      simp only [Prod.mk.injEq]
      constructor
      · rintro ⟨rfl, -⟩
        exact ⟨by omega, h1, h2⟩
      · rintro ⟨_, h3, h4⟩
        have := (decC_codec.apart h1 h3 (r := []) (s := []) (by rw [h2, h4])).1
        exact ⟨this, trivial⟩
    · rename_i hd
      simp only [Prod.mk.injEq]
      constructor
      · rintro ⟨-, h⟩
        cases h
      · rintro ⟨_, h3, h4⟩
        exact absurd ((decC_codec _ _ _).2 ⟨h3, by rw [List.append_nil]; exact h4⟩) (hd c)
theorem decCR_err (l : List UInt8) : (decCR l).2 ≠ 0 → (decCR l).1 = zCM ∧ ((decCR l).2 = if 1024 < l.length then 5 else 4) := by
  unfold decCR
  split
  · exact fun _ => ⟨rfl, rfl⟩
  · split
    · exact fun h => absurd rfl h
    · exact fun _ => ⟨rfl, rfl⟩
theorem encC_length {c : CM} (h : okC c = true) : (encC c).length ≤ 200 := by
  have hg := okC_gC h
  obtain ⟨⟨hk, he⟩, ht⟩ := hg
  unfold encC
  have h1 := encN_1 (n := c.kind) (by omega)
  have h2 := encN_7 he.2
  simp only [List.length_append]
  unfold tailG at ht
  split
  · rename_i hk1
    rw [if_pos hk1] at ht
    have : (encS c.spec).length ≤ 156 := encS_length (okS_gS ht.1)
    omega
  · rename_i hk1
    rw [if_neg hk1] at ht
    have : (encN c.id).length ≤ 5 := encN_5 ht.2.2
    omega
theorem encC_pos {c : CM} : 1 ≤ (encC c).length := by
  unfold encC
  have := (encN_length c.kind).1
  simp only [List.length_append]
  omega
end Go.Proofs.YtkhcdichdnbcmaaR.Sp
