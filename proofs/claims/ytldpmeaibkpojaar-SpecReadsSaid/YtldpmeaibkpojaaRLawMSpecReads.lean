import Derived.Test.YtldpmeaibkpojaaRSp0
import Derived.Test.YtldpmeaibkpojaaRV7
import Derived.Test.YtldpmeaibkpojaaRSpV0
import Derived.Test.YtldpmeaibkpojaaRSpF
import Derived.Test.YtldpmeaibkpojaaRV9
import Derived.Test.YtldpmeaibkpojaaRRows
import Derived.WalkKit
import Derived.ProofKit
import Derived.OpenShut
import Derived.ShutString
import Derived.ChangeOld
import Derived.Below
import Derived.SizedLaws
section
/- The reader of the reference, which bounds its numbers otherwise, reads what the program's reader reads. -/
namespace Go.Proofs.YtldpmeaibkpojaaR.Sp
open Go.Proofs.YtldpmeaibkpojaaR.Pk
set_option linter.unusedVariables false
set_option linter.unusedSimpArgs false

def rdT2 (l : List UInt8) : Option (TS × List UInt8) :=
  (numL 1 l).bind fun a => (numL 4611686018427387904 a.2).bind fun b => (numL 4611686018427387904 b.2).bind fun c => (numL 4611686018427387904 c.2).bind fun d => (numL 4611686018427387904 d.2).bind fun e => (numL 4611686018427387904 e.2).bind fun f =>
    some (⟨decide (a.1 = 1), b.1, c.1, d.1, e.1, f.1⟩, f.2)
def rdS2 (l : List UInt8) : Option (SP × List UInt8) :=
  (numL 4611686018427387904 l).bind fun a => (numL 4611686018427387904 a.2).bind fun b => (numL 4611686018427387904 b.2).bind fun c => (numL 4611686018427387904 c.2).bind fun d => (listP 8 (numL 4611686018427387904) d.2).bind fun e => (listP 4 rdT2 e.2).bind fun f =>
    some (⟨a.1, b.1, c.1, d.1, e.1, f.1⟩, f.2)
def gT2 (t : TS) : Prop := (0 ≤ t.limit ∧ t.limit ≤ 4611686018427387904) ∧ (0 ≤ t.window ∧ t.window ≤ 4611686018427387904) ∧ (0 ≤ t.base ∧ t.base ≤ 4611686018427387904) ∧ (0 ≤ t.most ∧ t.most ≤ 4611686018427387904) ∧ (0 ≤ t.probes ∧ t.probes ≤ 4611686018427387904)
def gS2 (s : SP) : Prop := (0 ≤ s.id ∧ s.id ≤ 4611686018427387904) ∧ (0 ≤ s.cpu ∧ s.cpu ≤ 4611686018427387904) ∧ (0 ≤ s.mem ∧ s.mem ≤ 4611686018427387904) ∧ (0 ≤ s.disk ∧ s.disk ≤ 4611686018427387904) ∧ ((s.ports.length : Int) ≤ 8 ∧ ∀ p ∈ s.ports, 0 ≤ p ∧ p ≤ 4611686018427387904) ∧ ((s.tasks.length : Int) ≤ 4 ∧ ∀ t ∈ s.tasks, gT2 t)
theorem rdT2_codec : Codec rdT2 gT2 (fun t => encNs (numsT t)) := by
  have h1 := num_codec (most := 1) (by decide)
  have h8 := num_codec (most := 4611686018427387904) (by decide)
  have h40 := num_codec (most := 4611686018427387904) (by decide)
  have hp := num_codec (most := 4611686018427387904) (by decide)
  intro l t r
  simp only [rdT2, Option.bind_eq_some_iff]
  constructor
  · rintro ⟨⟨a, l1⟩, k1, ⟨b, l2⟩, k2, ⟨c, l3⟩, k3, ⟨d, l4⟩, k4, ⟨e, l5⟩, k5, ⟨f, l6⟩, k6, k7⟩
    dsimp only at k1 k2 k3 k4 k5 k6
    obtain ⟨a1, a2⟩ := (h1 _ _ _).1 k1
    obtain ⟨b1, b2⟩ := (h8 _ _ _).1 k2
    obtain ⟨c1, c2⟩ := (h40 _ _ _).1 k3
    obtain ⟨d1, d2⟩ := (h40 _ _ _).1 k4
    obtain ⟨e1, e2⟩ := (h40 _ _ _).1 k5
    obtain ⟨f1, f2⟩ := (hp _ _ _).1 k6
    simp only [Option.some.injEq, Prod.mk.injEq] at k7
    obtain ⟨rfl, rfl⟩ := k7
    refine ⟨⟨b1, c1, d1, e1, f1⟩, ?_⟩
    have ha : b2i (decide (a = 1)) = a := by unfold b2i; split <;> rename_i hq <;> simp at hq <;> omega
    simp only [numsT, encNs_cons, encNs_nil, ha, List.append_assoc, List.nil_append]
    rw [← a2, ← b2, ← c2, ← d2, ← e2, ← f2]
  · rintro ⟨⟨b1, c1, d1, e1, f1⟩, he⟩
    simp only [numsT, encNs_cons, encNs_nil, List.append_assoc, List.nil_append] at he
    have ha : 0 ≤ b2i t.always ∧ b2i t.always ≤ 1 := by unfold b2i; split <;> omega
    refine ⟨_, (h1 _ _ _).2 ⟨ha, he⟩, _, (h8 _ _ _).2 ⟨b1, rfl⟩, _, (h40 _ _ _).2 ⟨c1, rfl⟩, _, (h40 _ _ _).2 ⟨d1, rfl⟩, _, (h40 _ _ _).2 ⟨e1, rfl⟩, _, (hp _ _ _).2 ⟨f1, rfl⟩, ?_⟩
    have hb : decide (b2i t.always = 1) = t.always := by cases t.always <;> rfl
    simp [hb]
theorem rdS2_codec : Codec rdS2 gS2 encS := by
  have h31 := num_codec (most := 4611686018427387904) (by decide)
  have h40 := num_codec (most := 4611686018427387904) (by decide)
  have hp := (num_codec (most := 4611686018427387904) (by decide)).list (most := 8) (by decide)
  have ht := rdT2_codec.list (most := 4) (by decide)
  intro l s r
  simp only [rdS2, Option.bind_eq_some_iff]
  constructor
  · rintro ⟨⟨a, l1⟩, k1, ⟨b, l2⟩, k2, ⟨c, l3⟩, k3, ⟨d, l4⟩, k4, ⟨e, l5⟩, k5, ⟨f, l6⟩, k6, k7⟩
    dsimp only at k1 k2 k3 k4 k5 k6
    obtain ⟨a1, a2⟩ := (h31 _ _ _).1 k1
    obtain ⟨b1, b2⟩ := (h40 _ _ _).1 k2
    obtain ⟨c1, c2⟩ := (h40 _ _ _).1 k3
    obtain ⟨d1, d2⟩ := (h40 _ _ _).1 k4
    obtain ⟨e1, e2⟩ := (hp _ _ _).1 k5
    obtain ⟨f1, f2⟩ := (ht _ _ _).1 k6
    simp only [Option.some.injEq, Prod.mk.injEq] at k7
    obtain ⟨rfl, rfl⟩ := k7
    refine ⟨⟨a1, b1, c1, d1, e1, f1⟩, ?_⟩
    simp only [encS, numsS, encNs_append, encNs_cons, encNs_nil, encNs_flat, List.append_assoc, List.nil_append]
    simp only [List.append_assoc] at e2 f2
    rw [← a2, ← b2, ← c2, ← d2, ← e2, ← f2]
    rfl
  · rintro ⟨⟨a1, b1, c1, d1, e1, f1⟩, he⟩
    simp only [encS, numsS, encNs_append, encNs_cons, encNs_nil, encNs_flat, List.append_assoc, List.nil_append] at he
    refine ⟨_, (h31 _ _ _).2 ⟨a1, he⟩, _, (h40 _ _ _).2 ⟨b1, rfl⟩, _, (h40 _ _ _).2 ⟨c1, rfl⟩, _, (h40 _ _ _).2 ⟨d1, rfl⟩, _, (hp _ _ _).2 ⟨e1, by simp only [List.append_assoc]; rfl⟩, _, (ht _ _ _).2 ⟨f1, by simp only [List.append_assoc]⟩, rfl⟩
theorem gT_gT2 {t : TS} (h : gT t) : gT2 t := by
  obtain ⟨h1, h2, h3, h4, h5⟩ := h
  exact ⟨⟨h1.1, by omega⟩, ⟨h2.1, by omega⟩, ⟨h3.1, by omega⟩, ⟨h4.1, by omega⟩, ⟨h5.1, by omega⟩⟩
theorem gS_gS2 {s : SP} (h : gS s) : gS2 s := by
  obtain ⟨h1, h2, h3, h4, ⟨h5, h6⟩, h7, h8⟩ := h
  exact ⟨⟨h1.1, by omega⟩, ⟨h2.1, by omega⟩, ⟨h3.1, by omega⟩, ⟨h4.1, by omega⟩, ⟨h5, fun p hp => ⟨(h6 p hp).1, by have := (h6 p hp).2; omega⟩⟩, h7, fun t ht => gT_gT2 (h8 t ht)⟩
def decS2 (l : List UInt8) : Option (SP × List UInt8) := (rdS2 l).bind fun x => if okS x.1 = true then some x else none
theorem decS2_codec : Codec decS2 (fun s => okS s = true) encS := by
  have h := rdS2_codec.guard okS
  intro l s r
  constructor
  · intro k
    have := (h l s r).1 k
    exact ⟨this.1.2, this.2⟩
  · rintro ⟨k1, k2⟩
    exact (h l s r).2 ⟨⟨gS_gS2 (okS_gS k1), k1⟩, k2⟩
theorem decS2_eq (l : List UInt8) : decS2 l = decS l := by
  apply Option.ext
  rintro ⟨s, r⟩
  rw [decS2_codec l s r, decS_codec l s r]
end Go.Proofs.YtldpmeaibkpojaaR.Sp
end

section
/- What the reference's printed functions of Spec compute. -/
namespace Go.Proofs.YtldpmeaibkpojaaR.PureV
open Go.RowKit Go.Proofs.YtldpmeaibkpojaaR Go.Proofs.YtldpmeaibkpojaaR.Ext Go.Proofs.YtldpmeaibkpojaaR.V Go.Proofs.YtldpmeaibkpojaaR.Sp Go.Proofs.YtldpmeaibkpojaaRW.PrintWords Go.Proofs.YtldpmeaibkpojaaRW.PrintLast
open Go.Proofs.YtldpmeaibkpojaaR.Pk
set_option linter.unusedVariables false
set_option linter.unusedSimpArgs false

theorem w1 {i : Nat} (h : i ≤ 1000) : wrap64 ((i : Int) + 1) = ((i + 1 : Nat) : Int) := by unfold wrap64; omega
theorem rd_at (l : List Int) (i : Nat) (h : i < l.length) : rd l (i : Int) = l[i] := by simp [rd, h]
theorem rdT_at (l : List (S49)) (i : Nat) (h : i < l.length) : rd_T49 l (i : Int) = l[i] := by simp [rd_T49, h]
/-! ### Check -/
theorem fstE0 {e : Int} (h : e = 0) (l : List Int) : fstE (e :: l) = fstE l := by simp only [fstE]; rw [if_pos h]
theorem fstEN {e : Int} (h : ¬ e = 0) (l : List Int) : fstE (e :: l) = e := by simp only [fstE]; rw [if_neg h]
theorem range_ok {n lo hi : Int} (h1 : lo ≤ n) (h2 : n ≤ hi) : rangeE n lo hi = 0 := by unfold rangeE; rw [if_pos ((inI_iff _ _ _).2 ⟨h1, h2⟩)]
theorem range_no {n lo hi : Int} (h : n < lo ∨ hi < n) : rangeE n lo hi = 3 := by unfold rangeE; rw [if_neg (fun k => by have := (inI_iff _ _ _).1 k; omega)]
theorem res_eq (k : Nat) (a b c : Int) : sacristanref09_Check.f (k + 5) a b c = some (resE a b c) := by
  unfold sacristanref09_Check.f sacristanref09_amounts.f resE
  simp only [Option.bind_some, inI_iff]
  simp only [sacristanref09_Check.l0]
  have e0 : rd [a, b, c] 0 = a := rfl
  have e1 : rd [a, b, c] 1 = b := rfl
  have e2 : rd [a, b, c] 2 = c := rfl
  have f1 : wrap64 (0 + 1) = 1 := by unfold wrap64; omega
  have f2 : wrap64 (1 + 1) = 2 := by unfold wrap64; omega
  have f3 : wrap64 (2 + 1) = 3 := by unfold wrap64; omega
  simp only [f1, f2, f3, e0, e1, e2]
  simp
  grind
theorem ports_l0 (l : List Int) (hl : l.length ≤ 8) (d : Nat) : ∀ k i : Nat, i + d = l.length → 2 * d < k → sacristanref10_Check.l0 k l i = some (portsG (if i = 0 then 0 else l.getD (i - 1) 0) (l.drop i)) := by
  induction d with
  | zero =>
    intro k i hi hk
    obtain ⟨k, rfl⟩ : ∃ m, k = m + 1 := ⟨k - 1, by omega⟩
    simp only [sacristanref10_Check.l0]
    rw [if_neg (by omega), List.drop_eq_nil_of_le (by omega)]
    rfl
  | succ d ih =>
    intro k i hi hk
    obtain ⟨k, rfl⟩ : ∃ m, k = m + 2 := ⟨k - 2, by omega⟩
    have hil : i < l.length := by omega
    have q := ih k (i + 1) (by omega) (by omega)
    rw [if_neg (by omega), Nat.add_sub_cancel] at q
    have hg : l.getD i 0 = l[i] := by simp [hil]
    rw [hg] at q
    rw [List.drop_eq_getElem_cons hil]
    simp only [sacristanref10_Check.l0, portsG]
    rw [if_pos (by omega), if_pos (by omega), rd_at l i hil]
    by_cases h1 : l[i] < 1
    · rw [if_pos h1, if_pos (.inl h1)]
      simp only [sacristanref10_Check.j1]
      rw [if_pos trivial]
    · rw [if_neg h1]
      by_cases h2 : l[i] > 65535
      · rw [decide_eq_true h2, if_pos (.inr h2)]
        simp only [sacristanref10_Check.j1]
        rw [if_pos trivial]
      · rw [decide_eq_false h2, if_neg (fun h => h.elim h1 h2)]
        simp only [sacristanref10_Check.j1]
        rw [if_neg (by simp), rd_at l i hil]
        by_cases h3 : i = 0
        · subst h3
          rw [if_neg (by omega), if_pos rfl, if_neg (by omega), w1 (by omega)]
          exact q
        · have h4 : wrap64 ((i : Int) - 1) = ((i - 1 : Nat) : Int) := by unfold wrap64; omega
          rw [if_pos (by omega), if_pos (by omega), if_pos (by omega), h4, if_pos (by omega), if_pos (by omega), rd_at l (i - 1) (by omega), if_neg h3, w1 (by omega)]
          have hg2 : l.getD (i - 1) 0 = l[i - 1] := by simp [show i - 1 < l.length by omega]
          rw [hg2]
          split
          · rfl
          · exact q
theorem ports_eq (k : Nat) (hk : 20 ≤ k) (l : List Int) : sacristanref10_Check.f k l = some (portsE l) := by
  unfold sacristanref10_Check.f portsE
  by_cases h : l.length > 8
  · rw [if_pos (by omega), if_pos h]
  · rw [if_neg (by omega), if_neg h]
    have := ports_l0 l (by omega) l.length k 0 (by omega) (by omega)
    simpa using this
theorem pol_eq (b : Bool) (l w c m : Int) : sacristanref11_Check.f b l w c m = some (polE l w c m) := by
  unfold sacristanref11_Check.f polE
  simp only [inI_iff]
  grind
theorem tasks_l0 (a b c d : Int) (p : List Int) (m : List (S49)) (hm : m.length ≤ 4) (n : Nat) : ∀ k i : Nat, i + n = m.length → n < k → sacristanref13_Check.l0 k i a b c d p m = some (fstE (((m.map toTS).drop i).flatMap taskE)) := by
  induction n with
  | zero =>
    intro k i hi hk
    obtain ⟨k, rfl⟩ : ∃ m, k = m + 1 := ⟨k - 1, by omega⟩
    simp only [sacristanref13_Check.l0]
    rw [if_neg (by omega), List.drop_eq_nil_of_le (by rw [List.length_map]; omega)]
    rfl
  | succ n ih =>
    intro k i hi hk
    obtain ⟨k, rfl⟩ : ∃ m, k = m + 1 := ⟨k - 1, by omega⟩
    have hil : i < m.length := by omega
    have q := ih k (i + 1) (by omega) (by omega)
    simp only [sacristanref13_Check.l0]
    rw [if_pos (by omega), if_pos (by omega), rdT_at m i hil, pol_eq, Option.bind_some, List.drop_eq_getElem_cons (by rw [List.length_map]; exact hil), List.flatMap_cons, w1 (by omega), q]
    have e : (m.map toTS)[i]'(by rw [List.length_map]; exact hil) = toTS m[i] := by simp
    rw [e]
    generalize ((m.map toTS).drop (i + 1)).flatMap taskE = z
    show _ = some (fstE (polE (m[i]).f0.f1 (m[i]).f0.f2 (m[i]).f0.f3 (m[i]).f0.f4 :: rangeE (m[i]).f1 0 1000 :: z))
    by_cases h1 : polE (m[i]).f0.f1 (m[i]).f0.f2 (m[i]).f0.f3 (m[i]).f0.f4 = 0
    · rw [if_pos h1, fstE0 h1]
      by_cases h2 : (m[i]).f1 < 0
      · rw [if_pos h2, range_no (.inl h2), fstEN (by omega)]
      · rw [if_neg h2]
        by_cases h3 : (m[i]).f1 > 1000
        · rw [if_pos h3, range_no (.inr h3), fstEN (by omega)]
        · rw [if_neg h3, range_ok (by omega) (by omega), fstE0 rfl]
    · rw [if_neg h1, fstEN h1]
theorem check_eq (k : Nat) (a b c d : Int) (l : List Int) (m : List (S49)) : sacristanref13_Check.f (k + 30) a b c d l m = some (specE (spOf a b c d l m)) := by
  have e : specE (spOf a b c d l m) = fstE (rangeE a 0 2147483648 :: resE b c d :: portsE l :: countE m.length :: (((m.map toTS).take 4).flatMap taskE)) := by
    unfold specE askE spOf
    simp only [List.length_map]
    rfl
  rw [e]
  unfold sacristanref13_Check.f
  by_cases h1 : a < 0
  · rw [if_pos h1, range_no (.inl h1), fstEN (by omega)]
    simp only [sacristanref13_Check.j0]
    rw [if_pos trivial]
  · rw [if_neg h1]
    by_cases h2 : a > 2147483648
    · rw [decide_eq_true h2, range_no (.inr h2), fstEN (by omega)]
      simp only [sacristanref13_Check.j0]
      rw [if_pos trivial]
    · rw [decide_eq_false h2, range_ok (by omega) (by omega), fstE0 rfl]
      simp only [sacristanref13_Check.j0]
      rw [if_neg (by simp), res_eq, Option.bind_some]
      by_cases h3 : resE b c d = 0
      · rw [if_pos h3, fstE0 h3, ports_eq _ (by omega), Option.bind_some]
        by_cases h4 : portsE l = 0
        · rw [if_pos h4, fstE0 h4]
          unfold countE
          by_cases h5 : m.length = 0
          · rw [if_pos (by omega), if_pos h5, fstEN (by omega)]
          · rw [if_neg (by omega), if_neg h5]
            by_cases h6 : m.length > 4
            · rw [if_pos (by omega), if_pos h6, fstEN (by omega)]
            · rw [if_neg (by omega), if_neg h6, fstE0 rfl, List.take_of_length_le (by rw [List.length_map]; omega)]
              have := tasks_l0 a b c d l m (by omega) m.length (k + 29) 0 (by omega) (by omega)
              simpa using this
        · rw [if_neg h4, fstEN h4]
      · rw [if_neg h3, fstEN h3]
/-! ### The reader -/
abbrev M62 : Int := 4611686018427387904
abbrev R8 : Type := Int × Int × Int × Int × List Int × (List (S49)) × ByteArray × Bool
def BadT (o : Option R8) : Prop := ∃ t, o = some t ∧ t.2.2.2.2.2.2.2 = true
def numR (l : List UInt8) (b : Bool) : Int × List UInt8 × Bool := if b = true then (0, l, true) else match numL M62 l with | none => (0, l, true) | some x => (x.1, x.2, false)
theorem numR_true (l : List UInt8) : numR l true = (0, l, true) := rfl
theorem numR_none {l : List UInt8} (h : numL M62 l = none) : numR l false = (0, l, true) := by unfold numR; rw [if_neg (by simp), h]
theorem numR_some {l : List UInt8} {x : Int × List UInt8} (h : numL M62 l = some x) : numR l false = (x.1, x.2, false) := by unfold numR; rw [if_neg (by simp), h]
theorem numL_len {m : Int} {l : List UInt8} {x : Int × List UInt8} (h : numL m l = some x) : x.2.length ≤ l.length := by
  unfold numL at h
  obtain ⟨⟨n, r⟩, h1, h2⟩ := Option.bind_eq_some_iff.1 h
  split at h2
  · injection h2 with h2
    subst h2
    have := unvar_length h1
    simp only
    omega
  · cases h2
theorem numL_le {m : Int} (hm : m ≤ M62) (l : List UInt8) : numL m l = (numL M62 l).bind fun x => if x.1 ≤ m then some x else none := by
  unfold numL
  cases unvarL l with
  | none => rfl
  | some x =>
    simp only [Option.bind_some]
    by_cases h : (x.1 : Int) ≤ m
    · rw [if_pos h, if_pos (by omega), Option.bind_some, if_pos h]
    · rw [if_neg h]
      by_cases h2 : (x.1 : Int) ≤ M62
      · rw [if_pos h2, Option.bind_some, if_neg h]
      · rw [if_neg h2]; rfl
theorem numR_len (l : List UInt8) (b : Bool) : (numR l b).2.1.length ≤ l.length := by
  cases b with
  | true => exact Nat.le_refl _
  | false =>
    cases h : numL M62 l with
    | none => rw [numR_none h]; exact Nat.le_refl _
    | some x => rw [numR_some h]; exact numL_len h
theorem num_eq (k : Nat) (hk : 30 ≤ k) (l : List UInt8) (hl : l.length ≤ 400) (b : Bool) : sacristanref13_Reader_Num.f k (mkB l) b = some ((numR l b).1, mkB (numR l b).2.1, (numR l b).2.2) := by
  unfold sacristanref13_Reader_Num.f
  rw [runvar_eq k hk l (by omega), Option.bind_some]
  cases b with
  | true => rw [if_pos rfl]; rfl
  | false =>
    rw [if_neg (by simp)]
    unfold unvarR
    cases h : unvarL l with
    | none =>
      have hn : numL M62 l = none := by unfold numL; rw [h]; rfl
      rw [numR_none hn]
      rfl
    | some x =>
      obtain ⟨n, r⟩ := x
      by_cases hn : (n : Int) ≤ M62
      · have hs : numL M62 l = some ((n : Int), r) := by unfold numL; rw [h]; simp only [Option.bind_some]; rw [if_pos hn]
        have hw : wrap64 (n : Int) = n := by unfold wrap64; unfold M62 at hn; omega
        rw [numR_some hs]
        simp only []
        rw [if_pos trivial, if_neg (by unfold M62 at hn; omega), hw]
      · have hs : numL M62 l = none := by unfold numL; rw [h]; simp only [Option.bind_some]; rw [if_neg hn]
        rw [numR_none hs]
        simp only []
        rw [if_pos trivial, if_pos (by unfold M62 at hn; omega)]
theorem l1_bad (k : Nat) (n i : Int) (l : ByteArray) (a b c d : Int) (p : List Int) (ts : List (S49)) : BadT (sacristanref13_Reader_Spec.l1 (k + 2) n i l true a b c d p ts) := by
  simp only [sacristanref13_Reader_Spec.l1]
  by_cases h : i < n
  · rw [if_pos h]
    simp only [sacristanref13_Reader_Spec.j5]
    rw [if_neg (by simp), if_pos trivial]
    exact ⟨_, rfl, rfl⟩
  · rw [if_neg h]
    simp only [sacristanref13_Reader_Spec.j5]
    rw [if_neg (by simp), if_pos trivial]
    exact ⟨_, rfl, rfl⟩
theorem j2_bad (k : Nat) (l : List UInt8) (hl : l.length ≤ 400) (a b c d : Int) (p : List Int) : BadT (sacristanref13_Reader_Spec.j2 (k + 40) (mkB l) true a b c d p) := by
  simp only [sacristanref13_Reader_Spec.j2]
  rw [num_eq _ (by omega) l hl, numR_true, Option.bind_some]
  rw [if_pos rfl]
  simp only [sacristanref13_Reader_Spec.j3]
  exact l1_bad _ _ _ _ _ _ _ _ _ _
theorem l0_bad (k : Nat) (n i : Int) (l : List UInt8) (hl : l.length ≤ 400) (a b c d : Int) (p : List Int) : BadT (sacristanref13_Reader_Spec.l0 (k + 41) n i (mkB l) true a b c d p) := by
  simp only [sacristanref13_Reader_Spec.l0]
  by_cases h : i < n
  · rw [if_pos h, if_pos trivial]; exact j2_bad k l hl a b c d p
  · rw [if_neg h]; exact j2_bad k l hl a b c d p
theorem ports_run (a b c d : Int) (n : Nat) (hn : n ≤ 8) (m : Nat) : ∀ (k i : Nat) (l : List UInt8) (p : List Int), i + m = n → l.length ≤ 400 → p.length ≤ i →
    match manyP (numL M62) m l with
    | none => BadT (sacristanref13_Reader_Spec.l0 (k + 41 + m) n i (mkB l) false a b c d p)
    | some (xs, r) => sacristanref13_Reader_Spec.l0 (k + 41 + m) n i (mkB l) false a b c d p = sacristanref13_Reader_Spec.j2 (k + 40) (mkB r) false a b c d (p ++ xs) ∧ r.length ≤ l.length := by
  induction m with
  | zero =>
    intro k i l p hi hl hp
    simp only [manyP]
    refine ⟨?_, Nat.le_refl _⟩
    simp only [sacristanref13_Reader_Spec.l0]
    rw [if_neg (by omega), List.append_nil]
  | succ m ih =>
    intro k i l p hi hl hp
    have hs : sacristanref13_Reader_Spec.l0 (k + 41 + (m + 1)) n i (mkB l) false a b c d p = sacristanref13_Reader_Spec.l0 (k + 41 + m) n ((i + 1 : Nat) : Int) (mkB (numR l false).2.1) (numR l false).2.2 a b c d (p ++ [(numR l false).1]) := by
      rw [show k + 41 + (m + 1) = (k + 41 + m) + 1 by omega]
      simp only [sacristanref13_Reader_Spec.l0]
      rw [if_pos (by omega), if_neg (by simp), num_eq _ (by omega) l hl, Option.bind_some, if_pos (by omega), w1 (by omega)]
    rw [hs]
    simp only [manyP]
    cases h : numL M62 l with
    | none =>
      rw [numR_none h]
      simp only [Option.bind_none]
      rw [show k + 41 + m = (k + m) + 41 by omega]
      exact l0_bad _ _ _ l hl _ _ _ _ _
    | some x =>
      rw [numR_some h]
      simp only [Option.bind_some]
      have hx := numL_len h
      have q := ih k (i + 1) x.2 (p ++ [x.1]) (by omega) (by omega) (by simp; omega)
      cases h2 : manyP (numL M62) m x.2 with
      | none =>
        rw [h2] at q
        exact q
      | some y =>
        rw [h2] at q
        obtain ⟨q1, q2⟩ := q
        refine ⟨?_, by omega⟩
        rw [q1, List.append_assoc]
        rfl
def n1 (l : List UInt8) (b : Bool) := numR l b
def n2 (l : List UInt8) (b : Bool) := numR (n1 l b).2.1 (n1 l b).2.2
def n3 (l : List UInt8) (b : Bool) := numR (n2 l b).2.1 (n2 l b).2.2
def n4 (l : List UInt8) (b : Bool) := numR (n3 l b).2.1 (n3 l b).2.2
def n5 (l : List UInt8) (b : Bool) := numR (n4 l b).2.1 (n4 l b).2.2
theorem n_len (l : List UInt8) (b : Bool) : (n1 l b).2.1.length ≤ l.length ∧ (n2 l b).2.1.length ≤ l.length ∧ (n3 l b).2.1.length ≤ l.length ∧ (n4 l b).2.1.length ≤ l.length ∧ (n5 l b).2.1.length ≤ l.length := by
  have h1 := numR_len l b
  have h2 := numR_len (n1 l b).2.1 (n1 l b).2.2
  have h3 := numR_len (n2 l b).2.1 (n2 l b).2.2
  have h4 := numR_len (n3 l b).2.1 (n3 l b).2.2
  have h5 := numR_len (n4 l b).2.1 (n4 l b).2.2
  unfold n5 n4 n3 n2 n1 at *
  omega
theorem numR_bad (l : List UInt8) {b : Bool} (h : b = true) : (numR l b).2.2 = true := by subst h; rfl
theorem n5_bad1 (l : List UInt8) (b : Bool) (h : (n4 l b).2.2 = true) : (n5 l b).2.2 = true := numR_bad _ h
theorem n5_bad2 (l : List UInt8) (b : Bool) (h : (n3 l b).2.2 = true) : (n5 l b).2.2 = true := n5_bad1 _ _ (numR_bad _ h)
theorem n5_bad3 (l : List UInt8) (b : Bool) (h : (n2 l b).2.2 = true) : (n5 l b).2.2 = true := n5_bad2 _ _ (numR_bad _ h)
theorem n5_bad4 (l : List UInt8) (b : Bool) (h : (n1 l b).2.2 = true) : (n5 l b).2.2 = true := n5_bad3 _ _ (numR_bad _ h)
theorem n5_bad5 (l : List UInt8) (b : Bool) (h : b = true) : (n5 l b).2.2 = true := n5_bad4 _ _ (numR_bad _ h)
/-- Five numbers, one after another. -/
def five (l : List UInt8) : Option ((Int × Int × Int × Int × Int) × List UInt8) :=
  (numL M62 l).bind fun b => (numL M62 b.2).bind fun c => (numL M62 c.2).bind fun d => (numL M62 d.2).bind fun e => (numL M62 e.2).bind fun f => some ((b.1, c.1, d.1, e.1, f.1), f.2)
theorem five_run (l : List UInt8) :
    match five l with
    | none => (n5 l false).2.2 = true
    | some (x, r) => (n1 l false).1 = x.1 ∧ (n2 l false).1 = x.2.1 ∧ (n3 l false).1 = x.2.2.1 ∧ (n4 l false).1 = x.2.2.2.1 ∧ n5 l false = (x.2.2.2.2, r, false) := by
  unfold five
  cases h1 : numL M62 l with
  | none => exact n5_bad4 _ _ (by unfold n1; rw [numR_none h1])
  | some b =>
    have e1 : n1 l false = (b.1, b.2, false) := numR_some h1
    simp only [Option.bind_some]
    cases h2 : numL M62 b.2 with
    | none => exact n5_bad3 _ _ (by unfold n2; rw [e1]; simp only; rw [numR_none h2])
    | some c =>
      have e2 : n2 l false = (c.1, c.2, false) := by unfold n2; rw [e1]; exact numR_some h2
      simp only [Option.bind_some]
      cases h3 : numL M62 c.2 with
      | none => exact n5_bad2 _ _ (by unfold n3; rw [e2]; simp only; rw [numR_none h3])
      | some d =>
        have e3 : n3 l false = (d.1, d.2, false) := by unfold n3; rw [e2]; exact numR_some h3
        simp only [Option.bind_some]
        cases h4 : numL M62 d.2 with
        | none => exact n5_bad1 _ _ (by unfold n4; rw [e3]; simp only; rw [numR_none h4])
        | some e =>
          have e4 : n4 l false = (e.1, e.2, false) := by unfold n4; rw [e3]; exact numR_some h4
          simp only [Option.bind_some]
          cases h5 : numL M62 e.2 with
          | none => show (n5 l false).2.2 = true; unfold n5; rw [e4]; simp only; rw [numR_none h5]
          | some f =>
            have e5 : n5 l false = (f.1, f.2, false) := by unfold n5; rw [e4]; exact numR_some h5
            simp only [Option.bind_some]
            rw [e1, e2, e3, e4, e5]
            exact ⟨rfl, rfl, rfl, rfl, rfl⟩
theorem num_eq1 (k : Nat) (hk : 30 ≤ k) (l : List UInt8) (b : Bool) (hl : l.length ≤ 400) : sacristanref13_Reader_Num.f k (mkB l) b = some ((n1 l b).1, mkB (n1 l b).2.1, (n1 l b).2.2) := num_eq k hk l hl b
theorem num_eq2 (k : Nat) (hk : 30 ≤ k) (l : List UInt8) (b : Bool) (hl : (n1 l b).2.1.length ≤ 400) : sacristanref13_Reader_Num.f k (mkB (n1 l b).2.1) (n1 l b).2.2 = some ((n2 l b).1, mkB (n2 l b).2.1, (n2 l b).2.2) := num_eq k hk _ hl _
theorem num_eq3 (k : Nat) (hk : 30 ≤ k) (l : List UInt8) (b : Bool) (hl : (n2 l b).2.1.length ≤ 400) : sacristanref13_Reader_Num.f k (mkB (n2 l b).2.1) (n2 l b).2.2 = some ((n3 l b).1, mkB (n3 l b).2.1, (n3 l b).2.2) := num_eq k hk _ hl _
theorem num_eq4 (k : Nat) (hk : 30 ≤ k) (l : List UInt8) (b : Bool) (hl : (n3 l b).2.1.length ≤ 400) : sacristanref13_Reader_Num.f k (mkB (n3 l b).2.1) (n3 l b).2.2 = some ((n4 l b).1, mkB (n4 l b).2.1, (n4 l b).2.2) := num_eq k hk _ hl _
theorem num_eq5 (k : Nat) (hk : 30 ≤ k) (l : List UInt8) (b : Bool) (hl : (n4 l b).2.1.length ≤ 400) : sacristanref13_Reader_Num.f k (mkB (n4 l b).2.1) (n4 l b).2.2 = some ((n5 l b).1, mkB (n5 l b).2.1, (n5 l b).2.2) := num_eq k hk _ hl _
theorem j6_eq (k : Nat) (n : Int) (i : Nat) (v : Int) (l : List UInt8) (bb : Bool) (a b c d : Int) (p : List Int) (ts : List (S49)) (hi : i ≤ 10) (hts : ts.length ≤ 10) (hl : l.length ≤ 400) :
    sacristanref13_Reader_Spec.j6 (k + 41) n i v (mkB l) bb a b c d p ts = sacristanref13_Reader_Spec.l1 (k + 40) n ((i + 1 : Nat) : Int) (mkB (n5 l bb).2.1) (n5 l bb).2.2 a b c d p (ts ++ [⟨⟨(v == 1), (n1 l bb).1, (n2 l bb).1, (n3 l bb).1, (n4 l bb).1⟩, (n5 l bb).1⟩]) := by
  have hn := n_len l bb
  simp only [sacristanref13_Reader_Spec.j6]
  rw [num_eq1 _ (by omega) l bb hl, Option.bind_some]
  simp only []
  rw [num_eq2 _ (by omega) l bb (by omega), Option.bind_some]
  simp only []
  rw [num_eq3 _ (by omega) l bb (by omega), Option.bind_some]
  simp only []
  rw [num_eq4 _ (by omega) l bb (by omega), Option.bind_some]
  simp only []
  rw [num_eq5 _ (by omega) l bb (by omega), Option.bind_some]
  rw [if_pos (by omega), w1 (by omega)]
theorem rdT2_five (l : List UInt8) : rdT2 l = (numL 1 l).bind fun a => (five a.2).bind fun x => some (⟨decide (a.1 = 1), x.1.1, x.1.2.1, x.1.2.2.1, x.1.2.2.2.1, x.1.2.2.2.2⟩, x.2) := by
  unfold rdT2 five
  simp only [Option.bind_assoc, Option.bind_some]
theorem task_step (k : Nat) (n i : Nat) (l : List UInt8) (a b c d : Int) (p : List Int) (ts : List (S49)) (hi : i < n) (hn : n ≤ 4) (hts : ts.length ≤ i) (hl : l.length ≤ 400) :
    match rdT2 l with
    | none => BadT (sacristanref13_Reader_Spec.l1 (k + 43) n i (mkB l) false a b c d p ts)
    | some (t, r) => sacristanref13_Reader_Spec.l1 (k + 43) n i (mkB l) false a b c d p ts = sacristanref13_Reader_Spec.l1 (k + 40) n ((i + 1 : Nat) : Int) (mkB r) false a b c d p (ts ++ [ofTS t]) ∧ r.length ≤ l.length := by
  have hs : ∀ bb, (bb = (if (numR l false).2.2 = true then true else decide ((numR l false).1 > 1))) → sacristanref13_Reader_Spec.l1 (k + 43) n i (mkB l) false a b c d p ts = sacristanref13_Reader_Spec.j6 (k + 41) n i (numR l false).1 (mkB (numR l false).2.1) bb a b c d p ts := by
    intro bb hbb
    simp only [sacristanref13_Reader_Spec.l1]
    rw [if_pos (by omega)]
    simp only [sacristanref13_Reader_Spec.j5]
    rw [if_pos (by simp), num_eq _ (by omega) l hl, Option.bind_some]
    simp only []
    by_cases hb : (numR l false).2.2 = true
    · rw [if_pos hb] at hbb ⊢
      rw [hbb]
    · rw [if_neg hb] at hbb ⊢
      rw [hbb]
  rw [rdT2_five, numL_le (by decide) l]
  have bad : ∀ v r ts', r.length ≤ 400 → ts'.length ≤ 4 → BadT (sacristanref13_Reader_Spec.j6 (k + 41) n i v (mkB r) true a b c d p ts') := by
    intro v r ts' hr ht
    rw [j6_eq k n i v r true a b c d p ts' (by omega) (by omega) hr, n5_bad5 r true rfl]
    exact l1_bad _ _ _ _ _ _ _ _ _ _
  cases h : numL M62 l with
  | none =>
    rw [hs true (by rw [numR_none h]; rfl)]
    exact bad _ _ _ (by have := numR_len l false; omega) (by omega)
  | some x =>
    have hx := numL_len h
    simp only [Option.bind_some]
    by_cases h1 : x.1 ≤ 1
    · rw [if_pos h1, hs false (by rw [numR_some h]; simp; omega), numR_some h, j6_eq k n i x.1 x.2 false a b c d p ts (by omega) (by omega) (by omega)]
      simp only [Option.bind_some]
      have q := five_run x.2
      have hl5 := (n_len x.2 false).2.2.2.2
      cases h5 : five x.2 with
      | none =>
        rw [h5] at q
        have q : (n5 x.2 false).2.2 = true := q
        rw [q]
        exact l1_bad _ _ _ _ _ _ _ _ _ _
      | some y =>
        rw [h5] at q
        obtain ⟨y, r⟩ := y
        obtain ⟨q1, q2, q3, q4, q5⟩ := q
        rw [q5] at hl5
        rw [q1, q2, q3, q4, q5]
        simp only [Option.bind_some]
        refine ⟨?_, by simp only at hl5; omega⟩
        rfl
    · rw [if_neg h1, hs true (by rw [numR_some h]; simp; omega), numR_some h]
      exact bad _ _ _ (by simp only; omega) (by omega)
theorem tasks_run (a b c d : Int) (p : List Int) (n : Nat) (hn : n ≤ 4) (m : Nat) : ∀ (k i : Nat) (l : List UInt8) (ts : List (S49)), i + m = n → l.length ≤ 400 → ts.length ≤ i →
    match manyP rdT2 m l with
    | none => BadT (sacristanref13_Reader_Spec.l1 (k + 40 + 3 * m) n i (mkB l) false a b c d p ts)
    | some (xs, r) => sacristanref13_Reader_Spec.l1 (k + 40 + 3 * m) n i (mkB l) false a b c d p ts = sacristanref13_Reader_Spec.l1 (k + 40) n n (mkB r) false a b c d p (ts ++ xs.map ofTS) ∧ r.length ≤ l.length := by
  induction m with
  | zero =>
    intro k i l ts hi hl ht
    simp only [manyP]
    refine ⟨?_, Nat.le_refl _⟩
    obtain rfl : i = n := by omega
    rw [List.map_nil, List.append_nil]
  | succ m ih =>
    intro k i l ts hi hl ht
    have q := task_step (k + 3 * m) n i l a b c d p ts (by omega) hn ht hl
    rw [show k + 40 + 3 * (m + 1) = k + 3 * m + 43 by omega]
    simp only [manyP]
    cases h : rdT2 l with
    | none => rw [h] at q; exact q
    | some x =>
      obtain ⟨t, r⟩ := x
      rw [h] at q
      obtain ⟨q1, q2⟩ := q
      rw [q1]
      simp only [Option.bind_some]
      have q3 := ih k (i + 1) r (ts ++ [ofTS t]) (by omega) (by omega) (by simp; omega)
      rw [show k + 3 * m + 40 = k + 40 + 3 * m by omega]
      cases h2 : manyP rdT2 m r with
      | none => rw [h2] at q3; exact q3
      | some y =>
        rw [h2] at q3
        obtain ⟨q4, q5⟩ := q3
        refine ⟨?_, by omega⟩
        rw [q4, List.append_assoc]
        rfl
theorem l1_end (k : Nat) (n : Nat) (r : ByteArray) (a b c d : Int) (p : List Int) (ts : List (S49)) : sacristanref13_Reader_Spec.l1 (k + 40) n n r false a b c d p ts = some (a, b, c, d, p, ts, r, (specE (spOf a b c d p ts) != 0)) := by
  simp only [sacristanref13_Reader_Spec.l1]
  rw [if_neg (by omega)]
  simp only [sacristanref13_Reader_Spec.j5]
  rw [if_neg (by simp), if_neg (by simp), show k + 38 = (k + 8) + 30 by omega, check_eq, Option.bind_some]
def rdS3 (l : List UInt8) : Option (SP × List UInt8) :=
  (five l).bind fun x => (if x.1.2.2.2.2 ≤ 8 then manyP (numL M62) x.1.2.2.2.2.toNat x.2 else none).bind fun e => (listP 4 rdT2 e.2).bind fun f => some (⟨x.1.1, x.1.2.1, x.1.2.2.1, x.1.2.2.2.1, e.1, f.1⟩, f.2)
theorem rdS3_eq (l : List UInt8) : rdS2 l = rdS3 l := by
  unfold rdS2 rdS3 five listP
  simp only [Option.bind_assoc, Option.bind_some]
  congr 1; funext a; congr 1; funext b; congr 1; funext c; congr 1; funext d
  rw [numL_le (m := 8) (by decide)]
  simp only [Option.bind_assoc]
  congr 1; funext e
  split
  · simp only [Option.bind_some]
  · rfl
theorem numL_nn {m : Int} {l : List UInt8} {x : Int × List UInt8} (h : numL m l = some x) : 0 ≤ x.1 := by
  unfold numL at h
  obtain ⟨⟨n, r⟩, h1, h2⟩ := Option.bind_eq_some_iff.1 h
  split at h2
  · injection h2 with h2
    subst h2
    simp only
    omega
  · cases h2
theorem j2_run (k : Nat) (l : List UInt8) (hl : l.length ≤ 400) (a b c d : Int) (p : List Int) :
    match listP 4 rdT2 l with
    | none => BadT (sacristanref13_Reader_Spec.j2 (k + 60) (mkB l) false a b c d p)
    | some (xs, r) => sacristanref13_Reader_Spec.j2 (k + 60) (mkB l) false a b c d p = some (a, b, c, d, p, xs.map ofTS, mkB r, (specE (spOf a b c d p (xs.map ofTS)) != 0)) := by
  have hs : ∀ bb, (bb = (if (numR l false).2.2 = true then true else decide ((numR l false).1 > 4))) → sacristanref13_Reader_Spec.j2 (k + 60) (mkB l) false a b c d p = sacristanref13_Reader_Spec.l1 (k + 58) (numR l false).1 0 (mkB (numR l false).2.1) bb a b c d p [] := by
    intro bb hbb
    simp only [sacristanref13_Reader_Spec.j2]
    rw [num_eq _ (by omega) l hl, Option.bind_some]
    simp only []
    by_cases hb : (numR l false).2.2 = true
    · rw [if_pos hb] at hbb ⊢
      rw [hbb]
      simp only [sacristanref13_Reader_Spec.j3]
    · rw [if_neg hb] at hbb ⊢
      rw [hbb]
      simp only [sacristanref13_Reader_Spec.j3]
  unfold listP
  rw [numL_le (by decide) l]
  cases h : numL M62 l with
  | none =>
    rw [hs true (by rw [numR_none h]; rfl)]
    exact l1_bad _ _ _ _ _ _ _ _ _ _
  | some x =>
    have hx := numL_len h
    have hx0 := numL_nn h
    simp only [Option.bind_some]
    by_cases h1 : x.1 ≤ 4
    · rw [if_pos h1, hs false (by rw [numR_some h]; simp; omega), numR_some h]
      simp only [Option.bind_some]
      obtain ⟨n, hn⟩ := Int.eq_ofNat_of_zero_le hx0
      have q := tasks_run a b c d p n (by omega) n (k + 18 - 3 * n) 0 x.2 [] (by omega) (by omega) (by simp)
      rw [hn, Int.toNat_natCast]
      rw [show k + 18 - 3 * n + 40 + 3 * n = k + 58 by omega] at q
      cases h2 : manyP rdT2 n x.2 with
      | none => rw [h2] at q; exact q
      | some y =>
        rw [h2] at q
        obtain ⟨ys, r⟩ := y
        obtain ⟨q1, q2⟩ := q
        exact q1.trans (l1_end _ _ _ _ _ _ _ _ _)
    · rw [if_neg h1, hs true (by rw [numR_some h]; simp; omega), numR_some h]
      exact l1_bad _ _ _ _ _ _ _ _ _ _
theorem spec_run (l : List UInt8) (hl : l.length ≤ 400) :
    match rdS2 l with
    | none => BadT (sacristanref13_Reader_Spec.f 100 (mkB l) false)
    | some (s, r) => sacristanref13_Reader_Spec.f 100 (mkB l) false = some (s.id, s.cpu, s.mem, s.disk, s.ports, s.tasks.map ofTS, mkB r, (specE s != 0)) := by
  have hn := n_len l false
  have hs : ∀ bb, (bb = (if (n5 l false).2.2 = true then true else decide ((n5 l false).1 > 8))) → sacristanref13_Reader_Spec.f 100 (mkB l) false = sacristanref13_Reader_Spec.l0 99 (n5 l false).1 0 (mkB (n5 l false).2.1) bb (n1 l false).1 (n2 l false).1 (n3 l false).1 (n4 l false).1 [] := by
    intro bb hbb
    unfold sacristanref13_Reader_Spec.f
    rw [num_eq1 100 (by omega) l false hl, Option.bind_some]
    simp only []
    rw [num_eq2 100 (by omega) l false (by omega), Option.bind_some]
    simp only []
    rw [num_eq3 100 (by omega) l false (by omega), Option.bind_some]
    simp only []
    rw [num_eq4 100 (by omega) l false (by omega), Option.bind_some]
    simp only []
    rw [num_eq5 100 (by omega) l false (by omega), Option.bind_some]
    by_cases hb : (n5 l false).2.2 = true
    · rw [if_pos hb] at hbb
      subst hbb
      refine (if_pos hb).trans ?_
      simp only [sacristanref13_Reader_Spec.j0]
    · rw [if_neg hb] at hbb
      subst hbb
      refine (if_neg hb).trans ?_
      simp only [sacristanref13_Reader_Spec.j0]
  rw [rdS3_eq]
  unfold rdS3
  have q := five_run l
  cases h5 : five l with
  | none =>
    rw [h5] at q
    have q : (n5 l false).2.2 = true := q
    rw [hs true (by rw [if_pos q])]
    exact l0_bad 58 _ _ _ (by omega) _ _ _ _ _
  | some y =>
    rw [h5] at q
    obtain ⟨⟨y1, y2, y3, y4, y5⟩, r⟩ := y
    obtain ⟨q1, q2, q3, q4, q5⟩ := q
    simp only at q1 q2 q3 q4 q5
    have hr := hn.2.2.2.2
    rw [q5] at hr
    simp only at hr
    simp only [Option.bind_some]
    by_cases h8 : y5 ≤ 8
    · rw [if_pos h8, hs false (by rw [q5]; simp; omega), q1, q2, q3, q4, q5]
      simp only []
      have h0 : 0 ≤ y5 := by
        unfold five at h5
        simp only [Option.bind_eq_some_iff] at h5
        obtain ⟨_, _, _, _, _, _, _, _, f, hf, h5⟩ := h5
        have := numL_nn hf
        injection h5 with h5
        injection h5 with h5 _
        injection h5 with _ h5
        injection h5 with _ h5
        injection h5 with _ h5
        injection h5 with _ h5
        omega
      obtain ⟨n, rfl⟩ := Int.eq_ofNat_of_zero_le h0
      have p := ports_run y1 y2 y3 y4 n (by omega) n (58 - n) 0 r [] (by omega) (by omega) (by simp)
      rw [show 58 - n + 41 + n = 99 by omega] at p
      rw [Int.toNat_natCast]
      cases h2 : manyP (numL M62) n r with
      | none => rw [h2] at p; exact p
      | some e =>
        rw [h2] at p
        obtain ⟨xs, r2⟩ := e
        obtain ⟨p1, p2⟩ := p
        simp only [Option.bind_some]
        have p1' : sacristanref13_Reader_Spec.l0 99 (n : Int) 0 (mkB r) false y1 y2 y3 y4 [] = sacristanref13_Reader_Spec.j2 (58 - n + 40) (mkB r2) false y1 y2 y3 y4 xs := p1
        rw [p1', show 58 - n + 40 = (38 - n) + 60 by omega]
        have t := j2_run (38 - n) r2 (by omega) y1 y2 y3 y4 xs
        cases h3 : listP 4 rdT2 r2 with
        | none => rw [h3] at t; exact t
        | some f =>
          rw [h3] at t
          obtain ⟨ts, r3⟩ := f
          have t : _ = some (y1, y2, y3, y4, xs, ts.map ofTS, mkB r3, (specE (spOf y1 y2 y3 y4 xs (ts.map ofTS)) != 0)) := t
          rw [t]
          have e : spOf y1 y2 y3 y4 xs (ts.map ofTS) = ⟨y1, y2, y3, y4, xs, ts⟩ := by
            unfold spOf
            rw [List.map_map, show (toTS ∘ ofTS) = id from rfl, List.map_id]
          rw [e]
          rfl
    · rw [if_neg h8, hs true (by rw [q5]; simp; omega), q5]
      exact l0_bad 58 _ _ _ (by simp only; omega) _ _ _ _ _
end Go.Proofs.YtldpmeaibkpojaaR.PureV
end

section
/- SpecReads: its plain law. -/
namespace Go.Proofs.YtldpmeaibkpojaaR.PureV
open Go.RowKit Go.Proofs.YtldpmeaibkpojaaR Go.Proofs.YtldpmeaibkpojaaR.Ext Go.Proofs.YtldpmeaibkpojaaR.V Go.Proofs.YtldpmeaibkpojaaR.Sp Go.Proofs.YtldpmeaibkpojaaRW.PrintWords Go.Proofs.YtldpmeaibkpojaaRW.PrintLast
set_option linter.unusedVariables false
set_option linter.unusedSimpArgs false

theorem drop_y {α : Type} (xs ys : List α) (i : Nat) (hx : i < xs.length) (hy : i < ys.length) (h : xs[i] = ys[i]) : (xs.drop i = ys.drop i) ↔ (xs.drop (i + 1) = ys.drop (i + 1)) := by
  rw [List.drop_eq_getElem_cons hx, List.drop_eq_getElem_cons hy, List.cons.injEq]; exact ⟨fun q => q.2, fun q => ⟨h, q⟩⟩
theorem drop_n {α : Type} (xs ys : List α) (i : Nat) (hx : i < xs.length) (hy : i < ys.length) (h : ¬ xs[i] = ys[i]) : ¬ (xs.drop i = ys.drop i) := by
  rw [List.drop_eq_getElem_cons hx, List.drop_eq_getElem_cons hy, List.cons.injEq]; exact fun q => h q.1
theorem eqInts_l0 (xs ys : List Int) (hl : xs.length = ys.length) (hm : xs.length ≤ 1000) (d : Nat) : ∀ k i : Nat, i + d = xs.length → d < k → sacristankit_EqualInts.l0 k xs ys i = some (decide (xs.drop i = ys.drop i)) := by
  induction d with
  | zero =>
    intro k i hi hk
    obtain ⟨k, rfl⟩ : ∃ m, k = m + 1 := ⟨k - 1, by omega⟩
    simp only [sacristankit_EqualInts.l0]
    rw [if_neg (by omega), List.drop_eq_nil_of_le (by omega), List.drop_eq_nil_of_le (by omega)]
    simp
  | succ d ih =>
    intro k i hi hk
    obtain ⟨k, rfl⟩ : ∃ m, k = m + 1 := ⟨k - 1, by omega⟩
    simp only [sacristankit_EqualInts.l0]
    rw [if_pos (by omega), if_pos (by omega), if_pos (by omega), rd_at xs i (by omega), rd_at ys i (by omega)]
    by_cases h : xs[i] = ys[i]
    · rw [if_pos h, w1 (by omega), ih k (i + 1) (by omega) (by omega), decide_eq_decide.2 (drop_y xs ys i (by omega) (by omega) h)]
    · rw [if_neg h, decide_eq_false (drop_n xs ys i (by omega) (by omega) h)]
theorem eqInts (k : Nat) (xs ys : List Int) (hm : xs.length ≤ 1000) (hk : xs.length < k) : sacristankit_EqualInts.f k xs ys = some (decide (xs = ys)) := by
  unfold sacristankit_EqualInts.f
  by_cases h : xs.length = ys.length
  · rw [if_pos (by omega)]
    have := eqInts_l0 xs ys h hm xs.length k 0 (by omega) hk
    simpa using this
  · rw [if_neg (by omega)]
    have : ¬ xs = ys := fun e => h (by rw [e])
    simp [this]
theorem cond_ne (x y : S49) : ((!(x.f0.f0 == y.f0.f0) || (!(x.f0.f1 == y.f0.f1) || (!(x.f0.f2 == y.f0.f2) || (!(x.f0.f3 == y.f0.f3) || (!(x.f0.f4 == y.f0.f4)))))) || (!(x.f1 == y.f1))) = !decide (toTS x = toTS y) := by
  rw [Bool.eq_iff_iff]
  simp [toTS, -Bool.not_eq_eq_eq_not]
  grind
theorem eqTs_l0 (xs ys : List (S49)) (hl : xs.length = ys.length) (hm : xs.length ≤ 1000) (d : Nat) : ∀ k i : Nat, i + d = xs.length → d < k → sacristankit_EqualTaskSpecs.l0 k xs ys i = some (decide ((xs.drop i).map toTS = (ys.drop i).map toTS)) := by
  induction d with
  | zero =>
    intro k i hi hk
    obtain ⟨k, rfl⟩ : ∃ m, k = m + 1 := ⟨k - 1, by omega⟩
    simp only [sacristankit_EqualTaskSpecs.l0]
    rw [if_neg (by omega), List.drop_eq_nil_of_le (by omega), List.drop_eq_nil_of_le (by omega)]
    simp
  | succ d ih =>
    intro k i hi hk
    obtain ⟨k, rfl⟩ : ∃ m, k = m + 1 := ⟨k - 1, by omega⟩
    simp only [sacristankit_EqualTaskSpecs.l0]
    rw [if_pos (by omega), if_pos (by omega), if_pos (by omega), cond_ne, rdT_at xs i (by omega), rdT_at ys i (by omega)]
    by_cases h : toTS xs[i] = toTS ys[i]
    · rw [if_neg (by simp [h]), w1 (by omega), ih k (i + 1) (by omega) (by omega), List.map_drop, List.map_drop, List.map_drop, List.map_drop, decide_eq_decide.2 (drop_y (xs.map toTS) (ys.map toTS) i (by rw [List.length_map]; omega) (by rw [List.length_map]; omega) (by simpa using h))]
    · rw [if_pos (by simp [h]), List.map_drop, List.map_drop, decide_eq_false (drop_n (xs.map toTS) (ys.map toTS) i (by rw [List.length_map]; omega) (by rw [List.length_map]; omega) (by simpa using h))]
theorem eqTs (k : Nat) (xs ys : List (S49)) (hm : xs.length ≤ 1000) (hk : xs.length < k) : sacristankit_EqualTaskSpecs.f k xs ys = some (decide (xs.map toTS = ys.map toTS)) := by
  unfold sacristankit_EqualTaskSpecs.f
  by_cases h : xs.length = ys.length
  · rw [if_pos (by omega)]
    have := eqTs_l0 xs ys h hm xs.length k 0 (by omega) hk
    simpa using this
  · rw [if_neg (by omega)]
    have : ¬ xs.map toTS = ys.map toTS := fun e => h (by have := congrArg List.length e; simpa using this)
    simp [this]
theorem spOf_eq (a b c d a' b' c' d' : Int) (l l' : List Int) (m m' : List (S49)) : (spOf a b c d l m = spOf a' b' c' d' l' m') ↔ a = a' ∧ (b = b' ∧ c = c' ∧ d = d') ∧ l = l' ∧ m.map toTS = m'.map toTS := by
  unfold spOf
  simp only [SP.mk.injEq]
  constructor
  · rintro ⟨h1, h2, h3, h4, h5, h6⟩; exact ⟨h1, ⟨h2, h3, h4⟩, h5, h6⟩
  · rintro ⟨h1, ⟨h2, h3, h4⟩, h5, h6⟩; exact ⟨h1, h2, h3, h4, h5, h6⟩
theorem eqSpec (k : Nat) (a b c d a' b' c' d' : Int) (l l' : List Int) (m m' : List (S49)) (h1 : l.length ≤ 1000) (h2 : m.length ≤ 1000) (k1 : l.length < k) (k2 : m.length < k) :
    sacristankit_EqualSpec.f k a b c d l m a' b' c' d' l' m' = some (decide (spOf a b c d l m = spOf a' b' c' d' l' m')) := by
  unfold sacristankit_EqualSpec.f
  rw [eqInts k l l' h1 k1, eqTs k m m' h2 k2]
  simp only [Option.bind_some]
  by_cases q1 : a = a'
  · by_cases q2 : (b == b' && (c == c' && (d == d'))) = true
    · rw [if_pos q1, if_pos q2]
      simp only [Bool.and_eq_true, beq_iff_eq] at q2
      by_cases q3 : l = l'
      · simp [spOf_eq, q1, q2, q3]
      · simp [spOf_eq, q1, q2, q3]
    · rw [if_pos q1, if_neg q2]
      simp only [Bool.and_eq_true, beq_iff_eq] at q2
      have : ¬ spOf a b c d l m = spOf a' b' c' d' l' m' := fun e => q2 ((spOf_eq _ _ _ _ _ _ _ _ _ _ _ _).1 e).2.1
      simp [this]
  · rw [if_neg q1]
    have : ¬ spOf a b c d l m = spOf a' b' c' d' l' m' := fun e => q1 ((spOf_eq _ _ _ _ _ _ _ _ _ _ _ _).1 e).1
    simp [this]
theorem mn_nat (n m : Nat) : mn (n : Int) (m : Int) = ((min n m : Nat) : Int) := by unfold mn; split <;> omega
theorem map_ofTS (l : List TS) : (l.map ofTS).map toTS = l := by
  rw [List.map_map, show (toTS ∘ ofTS) = id from rfl, List.map_id]
theorem dec_eq (l : List UInt8) : spec_Decode.f (mkB l) = some (decT (decR l)) := rfl
theorem rdec_eq (l : List UInt8) (hl : l.length ≤ 400) : sacristanref13_Decode.f 100 (mkB l) = some (decT (decR l)) := by
  unfold sacristanref13_Decode.f decR
  have q := spec_run l hl
  have e := decS2_eq l
  unfold decS2 at e
  rw [← e]
  cases h : rdS2 l with
  | none =>
    rw [h] at q
    obtain ⟨t, q1, q2⟩ := q
    rw [q1, Option.bind_some]
    unfold sacristanref13_Decode.g
    rw [if_pos q2]
    rfl
  | some x =>
    obtain ⟨s, r⟩ := x
    rw [h] at q
    have q : _ = some (s.id, s.cpu, s.mem, s.disk, s.ports, s.tasks.map ofTS, mkB r, (specE s != 0)) := q
    rw [q]
    simp only [Option.bind_some]
    unfold sacristanref13_Decode.g okS
    by_cases hx : specE s = 0
    · rw [if_neg (by simp [hx]), if_pos (by simp [hx])]
      rfl
    · rw [if_pos (by simp [hx]), if_neg (by simp [hx])]
      rfl
theorem decR_lens (l : List UInt8) : (decR l).1.ports.length ≤ 8 ∧ (decR l).1.tasks.length ≤ 4 := by
  unfold decR
  cases h : decS l with
  | none => exact ⟨by simp [zeroS], by simp [zeroS]⟩
  | some x =>
    obtain ⟨s, r⟩ := x
    obtain ⟨_, _, _, _, ⟨h1, _⟩, h2, _⟩ := okS_gS ((decS_codec l s r).1 h).1
    exact ⟨by simp only; omega, by simp only; omega⟩
end Go.Proofs.YtldpmeaibkpojaaR.PureV
namespace Go.Proofs.YtldpmeaibkpojaaR.Pure
open Go.RowKit Go.Proofs.YtldpmeaibkpojaaR Go.Proofs.YtldpmeaibkpojaaR.Ext Go.Proofs.YtldpmeaibkpojaaR.V Go.Proofs.YtldpmeaibkpojaaR.PureV Go.Proofs.YtldpmeaibkpojaaR.Sp Go.Proofs.YtldpmeaibkpojaaRW.PrintWords Go.Proofs.YtldpmeaibkpojaaRW.PrintLast
theorem SpecReads : sacristanlaw13_SpecReads.Pure := by
  intro a0 _
  obtain ⟨t, rfl⟩ : ∃ t, a0 = mkB t := ⟨a0.data.toList, (PureV.mkB_data a0).symm⟩
  refine ⟨100, ?_⟩
  unfold sacristanlaw13_SpecReads.f
  rw [PureV.mkB_size]
  have e1 : mn (t.length : Int) 400 = ((min t.length 400 : Nat) : Int) := mn_nat t.length 400
  rw [e1, if_pos (by omega), if_pos (by omega), Int.toNat_natCast, PureV.mkB_extract, List.drop_zero]
  have hS : (t.take (min t.length 400)).length ≤ 400 := by rw [List.length_take]; omega
  generalize t.take (min t.length 400) = S at hS
  rw [dec_eq, rdec_eq S hS]
  have hl := decR_lens S
  generalize decR S = x at hl
  obtain ⟨s, r, c⟩ := x
  rw [show decT (s, r, c) = (s.id, s.cpu, s.mem, s.disk, s.ports, s.tasks.map ofTS, mkB r, c) from rfl]
  simp only [Option.bind_some]
  have q := eqSpec 100 s.id s.cpu s.mem s.disk s.id s.cpu s.mem s.disk s.ports s.ports (s.tasks.map ofTS) (s.tasks.map ofTS) (by simp only at hl; omega) (by rw [List.length_map]; simp only at hl; omega) (by simp only at hl; omega) (by rw [List.length_map]; simp only at hl; omega)
  rw [q, Option.bind_some, if_pos (by simp), if_pos trivial, if_pos trivial]
  rfl
end Go.Proofs.YtldpmeaibkpojaaR.Pure
end

section
-- Printed by a program of this session (wip/xprint.py) out of the translation.
namespace Go.Proofs.YtldpmeaibkpojaaR.specReads
open Go.ChangeShapes Go.WideShapes Go.ChangeAt Go.RowKit
open Go.ChangeMaps (open_string shut_string)
set_option linter.unusedVariables false
theorem own : ownKnob Try.prog.godebug = none := by kernel_rfl
set_option maxRecDepth 100000 in
theorem lifted (os : Os) (started : os.Started) (H : Type) (enc : TypeId × Value → H) :
    ReturnsInHanded {} Try.checked os 3 .any (Rows.specReadsSpec.pre6 enc Try.prog Try.f3 Rows.specReadsRow.domain false) (Rows.specReadsSpec.post enc Try.prog Try.f3 false true false false) := by
  refine returnsInHanded_of_change_sized (C := Try.checked) own started (by kernel_rfl) Try.func3
    (ChangeSpec.witness6 (enc := enc) (C := Try.checked) false ⟨#[], #[.string ByteArray.empty], []⟩ 8 (by kernel_rfl) (by kernel_rfl) (by kernel_rfl) (by kernel_rfl)) ?_
  intro W base args ds gs before hval0 hW hcnd hsz0 _
  have hsz : (DataW.weightsEach Try.prog (Try.f3.params.toList ++ Rows.specReadsSpec.plain.varTypes Try.prog) (ds ++ gs)).all (· ≤ reachBytes) = true := hsz0
  have hval : ∀ (j : Nat) t v, Try.f3.params[j]? = some t → args[j]? = some v → Value.okWide Try.prog W .any base t v := hval0
  have hW' := hW
  obtain ⟨p, q, hA0, hV, rfl, hfz, hnd⟩ := hW
  have hA : DataW.TrodAll enc Try.prog W 0 (fun _ => true) true Try.f3.params.toList args.toList ds p := hA0
  rw [Try.params3] at hA hval hsz
  obtain ⟨v0, vs0, d0, ds0, p0, q0, hargs, rfl, rfl, h0, r0⟩ := trodAll_cons hA
  obtain ⟨rfl, rfl, rfl⟩ := trodAll_nil r0
  obtain rfl : args = #[v0] := by cases args; simp_all
  obtain ⟨rfl, rfl⟩ := trodVars_none hV
  obtain ⟨a0, rfl, rfl, rfl, y0⟩ := open_string Try.underlying9 (hval 0 9 v0 rfl rfl) h0
  have w0 : a0.size ≤ 140737488351232 := by
    have z := sized_string hsz (j := 0) (t := 9) rfl rfl
    rw [Array.length_toList] at z
    exact z
  clear hA0 hval0 hsz0 hsz
  refine (V.sacristanlaw13_SpecReads.walk Pure.SpecReads a0 W w0).mono fun e W' ⟨he, bel⟩ => ?_
  subst he
  exact ⟨_, rfl, _, _, _, [], _, [], hW', trodAll_mk1 (shut_bool Try.underlying4 _), (trodAll_cons_mk (shut_string Try.underlying9 y0) trodAll_mk0), rfl, bel.frame _, fun h => by cases h⟩
theorem over : Rows.specReadsRow.holds Try.pinned (OpenSpec.ofChange Rows.specReadsSpec) :=
  OpenClaim.holds_of_wide 3 Try.f3 rfl rfl rfl rfl rfl rfl rfl ⟨rfl, rfl, rfl, rfl, rfl⟩ rfl rfl rfl rfl rfl (by kernel_rfl) Try.func3 (by kernel_rfl)
    (of_decide_eq_true (by kernel_rfl)) (by unfold Func.isWrapper; first | (rw [if_pos (by decide +kernel)]; kernel_rfl) | (rw [if_neg (by decide +kernel)]; exact ⟨rfl, rfl⟩))
    (fun os started H enc _ => lifted os started H enc)
theorem proved : Rows.SpecReadsSaid := over
#print axioms proved
end Go.Proofs.YtldpmeaibkpojaaR.specReads
namespace Go.Proofs.YtldpmeaibkpojaaR
/-- The row, under a short name, for the claim. -/
theorem specReads_holds : Rows.SpecReadsSaid := specReads.proved
end Go.Proofs.YtldpmeaibkpojaaR
end
