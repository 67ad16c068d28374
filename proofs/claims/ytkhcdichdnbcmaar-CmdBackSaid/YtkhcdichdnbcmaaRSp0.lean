/- Plain mathematics of specifications as bytes: what is valid, what is written, what is read; each is the other's inverse. No program in sight. -/
import Derived.Test.YtkhcdichdnbcmaaRPk0
namespace Go.Proofs.YtkhcdichdnbcmaaR.Sp
open Go.Proofs.YtkhcdichdnbcmaaR.Pk
set_option linter.unusedVariables false
set_option linter.unusedSimpArgs false

/-- A reader `p` and a writer `e` of what is good (`g`). -/
def Codec {α : Type} (p : List UInt8 → Option (α × List UInt8)) (g : α → Prop) (e : α → List UInt8) : Prop := ∀ l a r, p l = some (a, r) ↔ g a ∧ e a ++ r = l
theorem Codec.back {α : Type} {p : List UInt8 → Option (α × List UInt8)} {g : α → Prop} {e : α → List UInt8} (h : Codec p g e) {a : α} (ha : g a) (r : List UInt8) : p (e a ++ r) = some (a, r) := (h _ _ _).2 ⟨ha, rfl⟩
theorem Codec.apart {α : Type} {p : List UInt8 → Option (α × List UInt8)} {g : α → Prop} {e : α → List UInt8} (h : Codec p g e) {a b : α} (ha : g a) (hb : g b) {r s : List UInt8} (he : e a ++ r = e b ++ s) : a = b ∧ r = s := by
  have h1 := h.back ha r
  rw [he, h.back hb s] at h1
  injection h1 with h1
  injection h1 with h1 h2
  exact ⟨h1.symm, h2.symm⟩
/-- Bytes that are the beginning of the other's are the same. -/
theorem Codec.head {α : Type} {p : List UInt8 → Option (α × List UInt8)} {g : α → Prop} {e : α → List UInt8} (h : Codec p g e) {a b : α} (ha : g a) (hb : g b) {n : Nat} (hn : n = min (e a).length (e b).length) (he : (e a).take n = (e b).take n) : a = b := by
  subst hn
  rcases Nat.le_total (e a).length (e b).length with hl | hl
  · rw [Nat.min_eq_left hl, List.take_of_length_le (Nat.le_refl _)] at he
    have h2 := List.take_append_drop (e a).length (e b)
    rw [← he] at h2
    exact (h.apart ha hb (r := (e b).drop (e a).length) (s := []) (by rw [h2, List.append_nil])).1
  · rw [Nat.min_eq_right hl, List.take_of_length_le (Nat.le_refl (e b).length)] at he
    have h2 := List.take_append_drop (e b).length (e a)
    rw [he] at h2
    exact (h.apart ha hb (r := []) (s := (e a).drop (e b).length) (by rw [h2, List.append_nil])).1
/-- One behind the other. -/
def seqP {α β : Type} (p : List UInt8 → Option (α × List UInt8)) (q : α → List UInt8 → Option (β × List UInt8)) (l : List UInt8) : Option ((α × β) × List UInt8) := (p l).bind fun x => (q x.1 x.2).map fun y => ((x.1, y.1), y.2)
theorem Codec.seq {α β : Type} {p : List UInt8 → Option (α × List UInt8)} {g : α → Prop} {e : α → List UInt8} {q : α → List UInt8 → Option (β × List UInt8)} {g' : α → β → Prop} {e' : α → β → List UInt8}
    (h : Codec p g e) (k : ∀ a, g a → Codec (q a) (g' a) (e' a)) : Codec (seqP p q) (fun x => g x.1 ∧ g' x.1 x.2) (fun x => e x.1 ++ e' x.1 x.2) := by
  rintro l ⟨a, b⟩ r
  simp only [seqP, Option.bind_eq_some_iff, Option.map_eq_some_iff, Prod.mk.injEq]
  constructor
  · rintro ⟨⟨a', l'⟩, h1, ⟨⟨b', r'⟩, h2, ⟨rfl, rfl⟩, rfl⟩⟩
    obtain ⟨h3, h4⟩ := (h _ _ _).1 h1
    obtain ⟨h5, h6⟩ := (k _ h3 _ _ _).1 h2
    refine ⟨⟨h3, h5⟩, ?_⟩
    rw [List.append_assoc]
    exact (congrArg (e a' ++ ·) h6).trans h4
  · rintro ⟨⟨h1, h2⟩, h3⟩
    refine ⟨(a, e' a b ++ r), (h _ _ _).2 ⟨h1, by rw [← h3, List.append_assoc]⟩, (b, r), (k a h1 _ _ _).2 ⟨h2, rfl⟩, ⟨rfl, rfl⟩, rfl⟩
theorem Codec.map {α β : Type} {p : List UInt8 → Option (α × List UInt8)} {g : α → Prop} {e : α → List UInt8} (h : Codec p g e) (f : α → β) (i : β → α) (hf : ∀ a, i (f a) = a) (hi : ∀ b, f (i b) = b) : Codec (fun l => (p l).map fun x => (f x.1, x.2)) (fun b => g (i b)) (fun b => e (i b)) := by
  intro l b r
  simp only [Option.map_eq_some_iff, Prod.mk.injEq]
  constructor
  · rintro ⟨⟨a, r'⟩, h1, rfl, rfl⟩
    rw [hf]
    exact (h _ _ _).1 h1
  · intro h1
    exact ⟨(i b, r), (h _ _ _).2 h1, hi b, rfl⟩
theorem Codec.guard {α : Type} {p : List UInt8 → Option (α × List UInt8)} {g : α → Prop} {e : α → List UInt8} (h : Codec p g e) (t : α → Bool) : Codec (fun l => (p l).bind fun x => if t x.1 = true then some x else none) (fun a => g a ∧ t a = true) e := by
  intro l a r
  simp only [Option.bind_eq_some_iff]
  constructor
  · rintro ⟨⟨a', r'⟩, h1, h2⟩
    split at h2
    · rename_i ht
      injection h2 with h2
      injection h2 with h2 h3
      subst h2; subst h3
      obtain ⟨h3, h4⟩ := (h _ _ _).1 h1
      exact ⟨⟨h3, ht⟩, h4⟩
    · cases h2
  · rintro ⟨⟨h1, h2⟩, h3⟩
    exact ⟨(a, r), (h _ _ _).2 ⟨h1, h3⟩, by rw [if_pos h2]⟩
/-- A number of at most `most`. -/
def numL (most : Int) (l : List UInt8) : Option (Int × List UInt8) := (unvarL l).bind fun x => if (x.1 : Int) ≤ most then some ((x.1 : Int), x.2) else none
def encN (n : Int) : List UInt8 := varL n.toNat
theorem num_codec {most : Int} (hm : most < 18446744073709551616) : Codec (numL most) (fun n => 0 ≤ n ∧ n ≤ most) encN := by
  intro l a r
  simp only [numL, Option.bind_eq_some_iff, encN]
  constructor
  · rintro ⟨⟨n, r'⟩, h1, h2⟩
    split at h2
    · injection h2 with h2
      injection h2 with h2 h3
      simp only at h2 h3
      subst h2; subst h3
      exact ⟨⟨by omega, by assumption⟩, by rw [Int.toNat_natCast]; exact (var_unvar h1).1⟩
    · cases h2
  · rintro ⟨⟨h1, h2⟩, h3⟩
    obtain ⟨n, rfl⟩ := Int.eq_ofNat_of_zero_le h1
    rw [Int.toNat_natCast] at h3
    exact ⟨(n, r), by rw [← h3]; exact unvar_var (by omega) r, by rw [if_pos h2]⟩
/-- So many, one behind the other. -/
def manyP {α : Type} (p : List UInt8 → Option (α × List UInt8)) : Nat → List UInt8 → Option (List α × List UInt8)
  | 0, l => some ([], l)
  | n + 1, l => (p l).bind fun x => (manyP p n x.2).map fun y => (x.1 :: y.1, y.2)
theorem Codec.many {α : Type} {p : List UInt8 → Option (α × List UInt8)} {g : α → Prop} {e : α → List UInt8} (h : Codec p g e) (n : Nat) : Codec (manyP p n) (fun xs => xs.length = n ∧ ∀ x ∈ xs, g x) (fun xs => xs.flatMap e) := by
  induction n with
  | zero =>
    intro l xs r
    simp only [manyP, Option.some.injEq, Prod.mk.injEq]
    constructor
    · rintro ⟨rfl, rfl⟩; simp
    · rintro ⟨⟨h1, h2⟩, h3⟩
      obtain rfl := List.eq_nil_of_length_eq_zero h1
      exact ⟨rfl, by simpa using h3.symm⟩
  | succ n ih =>
    intro l xs r
    simp only [manyP, Option.bind_eq_some_iff, Option.map_eq_some_iff, Prod.mk.injEq]
    constructor
    · rintro ⟨⟨a, l'⟩, h1, ⟨⟨ys, r'⟩, h2, rfl, rfl⟩⟩
      obtain ⟨h3, h4⟩ := (h _ _ _).1 h1
      obtain ⟨⟨h5, h6⟩, h7⟩ := (ih _ _ _).1 h2
      refine ⟨⟨by simp [h5], fun x hx => ?_⟩, ?_⟩
      · rcases List.mem_cons.1 hx with rfl | hx
        · exact h3
        · exact h6 x hx
      · rw [List.flatMap_cons, List.append_assoc]
        exact (congrArg (e a ++ ·) h7).trans h4
    · rintro ⟨⟨h1, h2⟩, h3⟩
      cases xs with
      | nil => simp at h1
      | cons a ys =>
        rw [List.flatMap_cons, List.append_assoc] at h3
        refine ⟨(a, ys.flatMap e ++ r), (h _ _ _).2 ⟨h2 a List.mem_cons_self, h3⟩, (ys, r), (ih _ _ _).2 ⟨⟨by simpa using h1, fun x hx => h2 x (List.mem_cons_of_mem _ hx)⟩, rfl⟩, rfl, rfl⟩
/-- A count of at most `most`, and so many. -/
def listP {α : Type} (most : Int) (p : List UInt8 → Option (α × List UInt8)) (l : List UInt8) : Option (List α × List UInt8) := (numL most l).bind fun x => manyP p x.1.toNat x.2
theorem Codec.list {α : Type} {p : List UInt8 → Option (α × List UInt8)} {g : α → Prop} {e : α → List UInt8} (h : Codec p g e) {most : Int} (hm : most < 18446744073709551616) : Codec (listP most p) (fun xs => (xs.length : Int) ≤ most ∧ ∀ x ∈ xs, g x) (fun xs => encN xs.length ++ xs.flatMap e) := by
  intro l xs r
  simp only [listP, Option.bind_eq_some_iff]
  constructor
  · rintro ⟨⟨n, l'⟩, h1, h2⟩
    obtain ⟨⟨h3, h4⟩, h5⟩ := (num_codec hm _ _ _).1 h1
    obtain ⟨⟨h6, h7⟩, h8⟩ := (h.many _ _ _ _).1 h2
    obtain ⟨n, rfl⟩ := Int.eq_ofNat_of_zero_le h3
    simp only [Int.toNat_natCast] at h6
    subst h6
    refine ⟨⟨h4, h7⟩, ?_⟩
    rw [List.append_assoc]
    exact (congrArg (encN _ ++ ·) h8).trans h5
  · rintro ⟨⟨h1, h2⟩, h3⟩
    rw [List.append_assoc] at h3
    exact ⟨((xs.length : Int), xs.flatMap e ++ r), (num_codec hm _ _ _).2 ⟨⟨by omega, h1⟩, h3⟩, (h.many _ _ _ _).2 ⟨⟨by simp, h2⟩, rfl⟩⟩

/-! ### Specifications -/
structure TS where
  always : Bool
  limit : Int
  window : Int
  base : Int
  most : Int
  probes : Int
  deriving DecidableEq
structure SP where
  id : Int
  cpu : Int
  mem : Int
  disk : Int
  ports : List Int
  tasks : List TS
  deriving DecidableEq
def inI (n lo hi : Int) : Bool := decide (lo ≤ n) && decide (n ≤ hi)
theorem inI_iff (n lo hi : Int) : inI n lo hi = true ↔ lo ≤ n ∧ n ≤ hi := by simp [inI]
/-- The first error of a list of errors. -/
def fstE : List Int → Int
  | [] => 0
  | e :: l => if e = 0 then fstE l else e
theorem fstE_zero (l : List Int) : fstE l = 0 ↔ ∀ e ∈ l, e = 0 := by
  induction l with
  | nil => simp [fstE]
  | cons e l ih =>
    simp only [fstE]
    split
    · rename_i h; subst h; simp [ih]
    · rename_i h
      constructor
      · intro k; exact absurd k h
      · intro k; exact k e List.mem_cons_self
def rangeE (n lo hi : Int) : Int := if inI n lo hi = true then 0 else 3
/-- An error unless ports are valid, each greater than the one before. -/
def portsG (before : Int) : List Int → Int
  | [] => 0
  | p :: l => if p < 1 ∨ p > 65535 then 3 else if p ≤ before then 13 else portsG p l
def portsE (l : List Int) : Int := if l.length > 8 then 5 else portsG 0 l
def countE (n : Nat) : Int := if n = 0 then 2 else if n > 4 then 5 else 0
def resE (c m d : Int) : Int := if inI c 0 1099511627776 = true ∧ inI m 0 1099511627776 = true ∧ inI d 0 1099511627776 = true then 0 else 3
def polE (l w b m : Int) : Int := if inI l 1 8 = true ∧ inI w 1 1099511627776 = true ∧ inI m 1 1099511627776 = true ∧ inI b 1 m = true then 0 else 3
def taskE (t : TS) : List Int := [polE t.limit t.window t.base t.most, rangeE t.probes 0 1000]
/-- The errors that a check asks for, in their order. -/
def askE (s : SP) : List Int := [rangeE s.id 0 2147483648, resE s.cpu s.mem s.disk, portsE s.ports, countE s.tasks.length] ++ (s.tasks.take 4).flatMap taskE
def specE (s : SP) : Int := fstE (askE s)
def okS (s : SP) : Bool := decide (specE s = 0)

/-! ### What a specification is, written and read -/
def gT (t : TS) : Prop := (0 ≤ t.limit ∧ t.limit ≤ 8) ∧ (0 ≤ t.window ∧ t.window ≤ 1099511627776) ∧ (0 ≤ t.base ∧ t.base ≤ 1099511627776) ∧ (0 ≤ t.most ∧ t.most ≤ 1099511627776) ∧ (0 ≤ t.probes ∧ t.probes ≤ 1000)
def b2i (b : Bool) : Int := if b = true then 1 else 0
def numsT (t : TS) : List Int := [b2i t.always, t.limit, t.window, t.base, t.most, t.probes]
def numsS (s : SP) : List Int := [s.id, s.cpu, s.mem, s.disk, (s.ports.length : Int)] ++ s.ports ++ [(s.tasks.length : Int)] ++ s.tasks.flatMap numsT
def encNs (l : List Int) : List UInt8 := l.flatMap encN
def encS (s : SP) : List UInt8 := encNs (numsS s)
theorem encNs_append (a b : List Int) : encNs (a ++ b) = encNs a ++ encNs b := by simp [encNs]
theorem encNs_cons (a : Int) (b : List Int) : encNs (a :: b) = encN a ++ encNs b := by simp [encNs]
theorem encNs_nil : encNs [] = [] := rfl
theorem encNs_flat (l : List TS) : encNs (l.flatMap numsT) = l.flatMap (fun t => encNs (numsT t)) := by
  induction l with
  | nil => rfl
  | cons a l ih => rw [List.flatMap_cons, encNs_append, ih, List.flatMap_cons]
/-- The reader of a task. -/
def rdT (l : List UInt8) : Option (TS × List UInt8) :=
  (numL 1 l).bind fun a => (numL 8 a.2).bind fun b => (numL 1099511627776 b.2).bind fun c => (numL 1099511627776 c.2).bind fun d => (numL 1099511627776 d.2).bind fun e => (numL 1000 e.2).bind fun f =>
    some (⟨decide (a.1 = 1), b.1, c.1, d.1, e.1, f.1⟩, f.2)
/-- The reader of a specification, without the last check. -/
def rdS (l : List UInt8) : Option (SP × List UInt8) :=
  (numL 2147483648 l).bind fun a => (numL 1099511627776 a.2).bind fun b => (numL 1099511627776 b.2).bind fun c => (numL 1099511627776 c.2).bind fun d => (listP 8 (numL 65535) d.2).bind fun e => (listP 4 rdT e.2).bind fun f =>
    some (⟨a.1, b.1, c.1, d.1, e.1, f.1⟩, f.2)
def gS (s : SP) : Prop := (0 ≤ s.id ∧ s.id ≤ 2147483648) ∧ (0 ≤ s.cpu ∧ s.cpu ≤ 1099511627776) ∧ (0 ≤ s.mem ∧ s.mem ≤ 1099511627776) ∧ (0 ≤ s.disk ∧ s.disk ≤ 1099511627776) ∧ ((s.ports.length : Int) ≤ 8 ∧ ∀ p ∈ s.ports, 0 ≤ p ∧ p ≤ 65535) ∧ ((s.tasks.length : Int) ≤ 4 ∧ ∀ t ∈ s.tasks, gT t)
def decS (l : List UInt8) : Option (SP × List UInt8) := (rdS l).bind fun x => if okS x.1 = true then some x else none
theorem rdT_codec : Codec rdT gT (fun t => encNs (numsT t)) := by
  have h1 := num_codec (most := 1) (by decide)
  have h8 := num_codec (most := 8) (by decide)
  have h40 := num_codec (most := 1099511627776) (by decide)
  have hp := num_codec (most := 1000) (by decide)
  intro l t r
  simp only [rdT, Option.bind_eq_some_iff]
  constructor
  · rintro ⟨⟨a, l1⟩, k1, ⟨b, l2⟩, k2, ⟨c, l3⟩, k3, ⟨d, l4⟩, k4, ⟨e, l5⟩, k5, ⟨f, l6⟩, k6, k7⟩
    dsimp only at k1 k2 k3 k4 k5 k6
    obtain ⟨a1, a2⟩ := (h1 _ _ _).1 k1
    obtain ⟨b1, b2⟩ := (h8 _ _ _).1 k2
    obtain ⟨c1, c2⟩ := (h40 _ _ _).1 k3
    obtain ⟨d1, d2⟩ := (h40 _ _ _).1 k4
    obtain ⟨e1, e2⟩ := (h40 _ _ _).1 k5
    obtain ⟨f1, f2⟩ := (hp _ _ _).1 k6
    simp only [Option.some.injEq, Prod.mk.injEq] at k7
    obtain ⟨rfl, rfl⟩ := k7
    refine ⟨⟨b1, c1, d1, e1, f1⟩, ?_⟩
    have ha : b2i (decide (a = 1)) = a := by unfold b2i; split <;> rename_i hq <;> simp at hq <;> omega
    simp only [numsT, encNs_cons, encNs_nil, ha, List.append_assoc, List.nil_append]
    rw [← a2, ← b2, ← c2, ← d2, ← e2, ← f2]
  · rintro ⟨⟨b1, c1, d1, e1, f1⟩, he⟩
    simp only [numsT, encNs_cons, encNs_nil, List.append_assoc, List.nil_append] at he
    have ha : 0 ≤ b2i t.always ∧ b2i t.always ≤ 1 := by unfold b2i; split <;> omega
    refine ⟨_, (h1 _ _ _).2 ⟨ha, he⟩, _, (h8 _ _ _).2 ⟨b1, rfl⟩, _, (h40 _ _ _).2 ⟨c1, rfl⟩, _, (h40 _ _ _).2 ⟨d1, rfl⟩, _, (h40 _ _ _).2 ⟨e1, rfl⟩, _, (hp _ _ _).2 ⟨f1, rfl⟩, ?_⟩
    have hb : decide (b2i t.always = 1) = t.always := by cases t.always <;> rfl
    simp [hb]
theorem rdS_codec : Codec rdS gS encS := by
  have h31 := num_codec (most := 2147483648) (by decide)
  have h40 := num_codec (most := 1099511627776) (by decide)
  have hp := (num_codec (most := 65535) (by decide)).list (most := 8) (by decide)
  have ht := rdT_codec.list (most := 4) (by decide)
  intro l s r
  simp only [rdS, Option.bind_eq_some_iff]
  constructor
  · rintro ⟨⟨a, l1⟩, k1, ⟨b, l2⟩, k2, ⟨c, l3⟩, k3, ⟨d, l4⟩, k4, ⟨e, l5⟩, k5, ⟨f, l6⟩, k6, k7⟩
    dsimp only at k1 k2 k3 k4 k5 k6
    obtain ⟨a1, a2⟩ := (h31 _ _ _).1 k1
    obtain ⟨b1, b2⟩ := (h40 _ _ _).1 k2
    obtain ⟨c1, c2⟩ := (h40 _ _ _).1 k3
    obtain ⟨d1, d2⟩ := (h40 _ _ _).1 k4
    obtain ⟨e1, e2⟩ := (hp _ _ _).1 k5
    obtain ⟨f1, f2⟩ := (ht _ _ _).1 k6
    simp only [Option.some.injEq, Prod.mk.injEq] at k7
    obtain ⟨rfl, rfl⟩ := k7
    refine ⟨⟨a1, b1, c1, d1, e1, f1⟩, ?_⟩
    simp only [encS, numsS, encNs_append, encNs_cons, encNs_nil, encNs_flat, List.append_assoc, List.nil_append]
    simp only [List.append_assoc] at e2 f2
    rw [← a2, ← b2, ← c2, ← d2, ← e2, ← f2]
    rfl
  · rintro ⟨⟨a1, b1, c1, d1, e1, f1⟩, he⟩
    simp only [encS, numsS, encNs_append, encNs_cons, encNs_nil, encNs_flat, List.append_assoc, List.nil_append] at he
    refine ⟨_, (h31 _ _ _).2 ⟨a1, he⟩, _, (h40 _ _ _).2 ⟨b1, rfl⟩, _, (h40 _ _ _).2 ⟨c1, rfl⟩, _, (h40 _ _ _).2 ⟨d1, rfl⟩, _, (hp _ _ _).2 ⟨e1, by simp only [List.append_assoc]; rfl⟩, _, (ht _ _ _).2 ⟨f1, by simp only [List.append_assoc]⟩, rfl⟩
theorem portsG_good {b : Int} {l : List Int} (h : portsG b l = 0) : ∀ p ∈ l, 0 ≤ p ∧ p ≤ 65535 := by
  induction l generalizing b with
  | nil => intro p hp; cases hp
  | cons a l ih =>
    simp only [portsG] at h
    split at h
    · cases h
    · split at h
      · cases h
      · intro p hp
        rcases List.mem_cons.1 hp with rfl | hp
        · omega
        · exact ih h p hp
theorem ite3 {c : Prop} [Decidable c] (h : (if c then (0 : Int) else 3) = 0) : c := by
  split at h
  · assumption
  · cases h
theorem okS_gS {s : SP} (h : okS s = true) : gS s := by
  have h := of_decide_eq_true h
  have h := (fstE_zero _).1 h
  simp only [askE, List.mem_append, List.mem_cons, List.not_mem_nil, or_false] at h
  have h1 := (inI_iff _ _ _).1 (ite3 (h _ (Or.inl (Or.inl rfl))))
  have h2 := ite3 (h (resE s.cpu s.mem s.disk) (Or.inl (Or.inr (Or.inl rfl))))
  have h3 : portsE s.ports = 0 := h _ (Or.inl (Or.inr (Or.inr (Or.inl rfl))))
  have h4 : countE s.tasks.length = 0 := h _ (Or.inl (Or.inr (Or.inr (Or.inr rfl))))
  have h5 : s.tasks.length ≤ 4 := by
    unfold countE at h4
    split at h4
    · cases h4
    · split at h4
      · cases h4
      · omega
  have h6 : s.ports.length ≤ 8 ∧ portsG 0 s.ports = 0 := by
    unfold portsE at h3
    split at h3
    · cases h3
    · exact ⟨by omega, h3⟩
  obtain ⟨r1, r2, r3⟩ := h2
  refine ⟨h1, (inI_iff _ _ _).1 r1, (inI_iff _ _ _).1 r2, (inI_iff _ _ _).1 r3, ⟨by omega, portsG_good h6.2⟩, ⟨by omega, fun t ht => ?_⟩⟩
  rw [List.take_of_length_le h5] at h
  have p1 := ite3 (h (polE t.limit t.window t.base t.most) (Or.inr (List.mem_flatMap.2 ⟨t, ht, by simp [taskE]⟩)))
  have p2 := (inI_iff _ _ _).1 (ite3 (h (rangeE t.probes 0 1000) (Or.inr (List.mem_flatMap.2 ⟨t, ht, by simp [taskE]⟩))))
  obtain ⟨q1, q2, q3, q4⟩ := p1
  have q1 := (inI_iff _ _ _).1 q1
  have q2 := (inI_iff _ _ _).1 q2
  have q3 := (inI_iff _ _ _).1 q3
  have q4 := (inI_iff _ _ _).1 q4
  exact ⟨⟨by omega, by omega⟩, ⟨by omega, by omega⟩, ⟨by omega, by omega⟩, ⟨by omega, by omega⟩, p2⟩
/-- What is read is what is written. -/
theorem decS_codec : Codec decS (fun s => okS s = true) encS := by
  have h := rdS_codec.guard okS
  intro l s r
  constructor
  · intro k
    have := (h l s r).1 k
    exact ⟨this.1.2, this.2⟩
  · rintro ⟨k1, k2⟩
    exact (h l s r).2 ⟨⟨okS_gS k1, k1⟩, k2⟩
/-! ### How many bytes -/
theorem encN_length (n : Int) : 1 ≤ (encN n).length ∧ (n < 248 → (encN n).length = 1) ∧ (n ≤ 65535 → (encN n).length ≤ 3) ∧ (n ≤ 2147483648 → (encN n).length ≤ 5) ∧ (n ≤ 1099511627776 → (encN n).length ≤ 7) := by
  unfold encN varL
  by_cases h : n.toNat < 248
  · rw [if_pos h]
    simp only [List.length_singleton]
    exact ⟨Nat.le_refl _, fun _ => by simp, fun _ => by omega, fun _ => by omega, fun _ => by omega⟩
  · rw [if_neg h]
    simp only [List.length_cons, be_length]
    have hp : ∀ w, n.toNat < 256 ^ w → lw n.toNat ≤ w := fun w h => (lw_le_iff _ _).2 h
    have e2 : (256 : Nat) ^ 2 = 65536 := by decide
    have e4 : (256 : Nat) ^ 4 = 4294967296 := by decide
    have e6 : (256 : Nat) ^ 6 = 281474976710656 := by decide
    have h2 := hp 2
    have h4 := hp 4
    have h6 := hp 6
    rw [e2] at h2
    rw [e4] at h4
    rw [e6] at h6
    exact ⟨by omega, fun _ => by omega, fun _ => by omega, fun _ => by omega, fun _ => by omega⟩
theorem encN_3 {n : Int} (h : n ≤ 65535) : (encN n).length ≤ 3 := by
  obtain ⟨-, -, h3, -, -⟩ := encN_length n
  exact h3 h
theorem encN_7 {n : Int} (h : n ≤ 1099511627776) : (encN n).length ≤ 7 := by
  obtain ⟨-, -, -, -, h3⟩ := encN_length n
  exact h3 h
theorem encN_5 {n : Int} (h : n ≤ 2147483648) : (encN n).length ≤ 5 := by
  obtain ⟨-, -, -, h3, -⟩ := encN_length n
  exact h3 h
theorem encN_1 {n : Int} (h : n ≤ 247) : (encN n).length = 1 := by
  obtain ⟨-, h3, -, -, -⟩ := encN_length n
  exact h3 (by omega)
theorem flat_len {α : Type} (e : α → List UInt8) (m : Nat) (l : List α) (h : ∀ x ∈ l, (e x).length ≤ m) : (l.flatMap e).length ≤ m * l.length := by
  induction l with
  | nil => simp
  | cons a l ih =>
    rw [List.flatMap_cons, List.length_append, List.length_cons, Nat.mul_succ]
    have h1 := h a List.mem_cons_self
    have h2 := ih (fun x hx => h x (List.mem_cons_of_mem _ hx))
    omega
theorem encT_length {t : TS} (h : gT t) : (encNs (numsT t)).length ≤ 26 := by
  obtain ⟨q1, q2, q3, q4, q5⟩ := h
  have hb : b2i t.always ≤ 247 := by unfold b2i; split <;> omega
  have k1 := encN_1 hb
  have k2 := encN_1 (n := t.limit) (by omega)
  have k3 := encN_7 q2.2
  have k4 := encN_7 q3.2
  have k5 := encN_7 q4.2
  have k6 := encN_3 (n := t.probes) (by omega)
  simp only [numsT, encNs_cons, encNs_nil, List.length_append, List.length_nil]
  omega
theorem encS_length {s : SP} (h : gS s) : (encS s).length ≤ 156 := by
  obtain ⟨a1, b1, c1, d1, ⟨e1, e2⟩, ⟨f1, f2⟩⟩ := h
  have h1 := encN_5 a1.2
  have h2 := encN_7 b1.2
  have h3 := encN_7 c1.2
  have h4 := encN_7 d1.2
  have h5 := encN_1 (n := (s.ports.length : Int)) (by omega)
  have h6 := encN_1 (n := (s.tasks.length : Int)) (by omega)
  have h7 := flat_len encN 3 s.ports (fun p hp => encN_3 (e2 p hp).2)
  have h8 := flat_len (fun t => encNs (numsT t)) 26 s.tasks (fun t ht => encT_length (f2 t ht))
  simp only [encS, numsS, encNs_append, encNs_cons, encNs_nil, encNs_flat, List.length_append, List.length_nil]
  have h9 : (encNs s.ports).length ≤ 3 * s.ports.length := h7
  omega
end Go.Proofs.YtkhcdichdnbcmaaR.Sp
