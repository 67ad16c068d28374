/- What lies in memory beside each other: objects with disjoint blocks, and what a call that writes to some of them leaves of the others. -/
import Derived.Test.YtkhcdichdnbcmaaRBase
namespace Go.Proofs.YtkhcdichdnbcmaaR
open Go.RowKit
set_option linter.unusedVariables false

/-- All is as it was but for the blocks of S. -/
structure Chg (S : Nat → Prop) (w w' : World) : Prop where
  os : w'.os = w.os
  tape : w'.tape = w.tape
  output : w'.output = w.output
  size : w.heap.size ≤ w'.heap.size
  block : ∀ k, ¬ S k → k < w.heap.size → w'.heap[k]? = w.heap[k]?
theorem Chg.refl (S : Nat → Prop) (w : World) : Chg S w w := ⟨rfl, rfl, rfl, Nat.le_refl _, fun _ _ _ => rfl⟩
theorem Chg.trans {S : Nat → Prop} {a b c : World} (h : Chg S a b) (k : Chg S b c) : Chg S a c :=
  ⟨k.os.trans h.os, k.tape.trans h.tape, k.output.trans h.output, Nat.le_trans h.size k.size, fun i hi hs => (k.block i hi (Nat.lt_of_lt_of_le hs h.size)).trans (h.block i hi hs)⟩
theorem Chg.mono {S T : Nat → Prop} {a b : World} (h : Chg S a b) (k : ∀ i, i < a.heap.size → S i → T i) : Chg T a b := ⟨h.os, h.tape, h.output, h.size, fun i hi hs => h.block i (fun q => hi (k i hs q)) hs⟩
theorem Chg.of_below {S : Nat → Prop} {w w' : World} (h : Below w.heap.size w w') : Chg S w w' := ⟨h.os, h.tape, h.output, h.size, fun k _ hs => h.block k hs⟩
theorem Chg.of_grown {S : Nat → Prop} {w w' : World} {o : Option Nat} (h : w.grownBy w' o) (hS : ∀ k, o = some k → S k) : Chg S w w' := ⟨h.os, h.tape, h.output, h.size, fun k hk hs => h.block k hs (fun e => hk (hS k e.symm))⟩
theorem Chg.below {S : Nat → Prop} {n : Nat} {w w' : World} (h : Chg S w w') (hn : ∀ k, k < n → ¬ S k) (hs : n ≤ w.heap.size) : Below n w w' :=
  ⟨h.os, h.tape, h.output, h.size, fun k hk => h.block k (hn k hk) (by omega)⟩
theorem Chg.at {S : Nat → Prop} {C : Nat} {w w' : World} {o : Obj} (h : Chg S w w') (hne : ¬ S C) (hC : w.heap[C]? = some o) : w'.heap[C]? = some o := (h.block C hne (vlt hC)).trans hC
theorem Chg.drw {S : Nat → Prop} {w W : World} (h : Chg S w W) : Chg S w W.drew := ⟨h.os, h.tape, h.output, h.size, h.block⟩
theorem Chg.setc {S : Nat → Prop} {B j : Nat} {u : Value} {w W : World} (h : Chg S w W) (hS : S B) : Chg S w (W.setCell ⟨B, j, none⟩ u) :=
  h.trans ⟨rfl, rfl, rfl, by simp [World.setCell], fun k hk _ => Below.heap_setCell _ _ _ _ (by rintro rfl; exact hk hS)⟩
theorem below_chg {S : Nat → Prop} {n : Nat} {w a b : World} (h : Below n w a) (k : Chg S a b) (hn : ∀ k, k < n → ¬ S k) (hw : n ≤ w.heap.size) : Below n w b :=
  h.trans (k.below hn (Nat.le_trans hw h.size))

/-- What holds of a world and is told by the blocks of a set alone. -/
abbrev HP := World → (Nat → Prop) → Prop
structure Loc (P : HP) : Prop where
  keep : ∀ {w w' : World} {S : Nat → Prop}, P w S → (∀ k, S k → w'.heap[k]? = w.heap[k]?) → P w' S
  lt : ∀ {w : World} {S : Nat → Prop} {k : Nat}, P w S → S k → k < w.heap.size
/-- The objects of L lie beside each other, from block base on, and outside U. -/
def Sep (base : Nat) (w : World) : List HP → (Nat → Prop) → Prop
  | [], _ => True
  | P :: L, U => ∃ S, Loc P ∧ P w S ∧ (∀ k, S k → base ≤ k ∧ ¬ U k) ∧ Sep base w L (fun k => U k ∨ S k)
theorem Sep.frame {base : Nat} {w w' : World} : ∀ {L : List HP} {U U' : Nat → Prop}, Sep base w L U → (∀ k, k < w.heap.size → ¬ U k → w'.heap[k]? = w.heap[k]?) → (∀ k, k < w.heap.size → U' k → U k) → Sep base w' L U'
  | [], _, _, _, _, _ => trivial
  | P :: L, U, U', ⟨S, l, p, d, r⟩, hk, hu => ⟨S, l, l.keep p (fun k hs => hk k (l.lt p hs) (d k hs).2), fun k hs => ⟨(d k hs).1, fun q => (d k hs).2 (hu k (l.lt p hs) q)⟩,
      Sep.frame r (fun k h1 h2 => hk k h1 (fun q => h2 (Or.inl q))) (fun k h1 h2 => h2.elim (fun q => Or.inl (hu k h1 q)) Or.inr)⟩
theorem Sep.less {base : Nat} {w : World} {L : List HP} {U U' : Nat → Prop} (h : Sep base w L U) (hu : ∀ k, U' k → U k) : Sep base w L U' := h.frame (fun _ _ _ => rfl) (fun k _ => hu k)
theorem Sep.perm {base : Nat} {w : World} {L L' : List HP} (hp : L.Perm L') : ∀ {U : Nat → Prop}, Sep base w L U → Sep base w L' U := by
  induction hp with
  | nil => exact fun h => h
  | cons x _ ih => rintro U ⟨S, l, p, d, r⟩; exact ⟨S, l, p, d, ih r⟩
  | swap x y l =>
    rintro U ⟨S, l1, p1, d1, T, l2, p2, d2, r⟩
    exact ⟨T, l2, p2, fun k hk => ⟨(d2 k hk).1, fun q => (d2 k hk).2 (Or.inl q)⟩, S, l1, p1, fun k hk => ⟨(d1 k hk).1, fun q => q.elim (d1 k hk).2 (fun q => (d2 k q).2 (Or.inr hk))⟩, r.less (fun k q => by
      rcases q with (q | q) | q
      · exact Or.inl (Or.inl q)
      · exact Or.inr q
      · exact Or.inl (Or.inr q))⟩
  | trans _ _ i1 i2 => exact fun h => i2 (i1 h)
/-- The state of a law's memory: its own objects, and nothing else has turned. -/
structure St (w0 w : World) (L : List HP) : Prop where
  sep : Sep w0.heap.size w L (fun _ => False)
  bel : Below w0.heap.size w0 w
theorem pick_perm {α : Type _} : ∀ (L : List α) (i : Nat) (hi : i < L.length), L.Perm (L[i] :: L.eraseIdx i)
  | [], i, hi => absurd hi (by simp)
  | x :: L, 0, _ => List.Perm.refl _
  | x :: L, i + 1, hi => ((pick_perm L i (by simpa using hi)).cons x).trans (List.Perm.swap _ _ _)
theorem St.pick {w0 w : World} {L : List HP} (h : St w0 w L) (i : Nat) (hi : i < L.length := by first | (simp; done) | (simp; omega)) : St w0 w (L[i] :: L.eraseIdx i) := ⟨h.sep.perm (pick_perm L i hi), h.bel⟩
theorem St.start (w : World) : St w w [] := ⟨trivial, Below.refl _ _⟩
theorem St.more {w0 w w' : World} {L : List HP} (h : St w0 w L) (k : Below w.heap.size w w') : St w0 w' L :=
  ⟨h.sep.frame (fun i hi _ => k.block i hi) (fun _ _ q => q), h.bel.trans ⟨k.os, k.tape, k.output, k.size, fun i hi => k.block i (Nat.lt_of_lt_of_le hi h.bel.size)⟩⟩
/-- A new object, of new blocks. -/
theorem St.new {w0 w w' : World} {L : List HP} (h : St w0 w L) (k : Below w.heap.size w w') {P : HP} {S : Nat → Prop} (l : Loc P) (p : P w' S) (hS : ∀ i, S i → w.heap.size ≤ i) : St w0 w' (P :: L) := by
  refine ⟨⟨S, l, p, fun i hi => ⟨Nat.le_trans h.bel.size (hS i hi), fun q => q⟩, ?_⟩, (h.more k).bel⟩
  exact h.sep.frame (fun i hi _ => k.block i hi) (fun i hi q => q.elim (fun q => q) (fun q => by have := hS i q; omega))
/-- The first object is forgotten. -/
theorem St.drop {w0 w : World} {P : HP} {L : List HP} (h : St w0 w (P :: L)) : St w0 w L := by
  obtain ⟨⟨S, l, p, d, r⟩, b⟩ := h
  exact ⟨r.less (fun _ q => Or.inl q), b⟩
/-- A call that writes to the first object. -/
theorem St.one {w0 w : World} {P : HP} {L : List HP} (h : St w0 w (P :: L)) : ∃ S, P w S ∧ ∀ {w' : World} {P' : HP} {S' : Nat → Prop}, Chg S w w' → Loc P' → P' w' S' → (∀ k, k < w.heap.size → S' k → S k) → St w0 w' (P' :: L) := by
  obtain ⟨⟨S, l, p, d, r⟩, b⟩ := h
  refine ⟨S, p, fun {w' P' S'} c l' p' hs => ⟨⟨S', l', p', fun k hk => ⟨?_, fun q => q⟩, ?_⟩, below_chg b c (fun k hk q => by have := (d k q).1; omega) (Nat.le_refl _)⟩⟩
  · rcases Nat.lt_or_ge k w.heap.size with h1 | h1
    · exact (d k (hs k h1 hk)).1
    · exact Nat.le_trans b.size h1
  · exact r.frame (fun k h1 h2 => c.block k (fun q => h2 (Or.inr q)) h1) (fun k h1 h2 => h2.elim Or.inl (fun q => Or.inr (hs k h1 q)))
/-- A call that writes to the first two objects. -/
theorem St.two {w0 w : World} {P Q : HP} {L : List HP} (h : St w0 w (P :: Q :: L)) : ∃ S T, P w S ∧ Q w T ∧ (∀ k, S k → ¬ T k) ∧ ∀ {w' : World} {P' Q' : HP} {S' T' : Nat → Prop}, Chg (fun k => S k ∨ T k) w w' → Loc P' → P' w' S' → Loc Q' → Q' w' T' → (∀ k, k < w.heap.size → S' k → S k ∨ T k) → (∀ k, k < w.heap.size → T' k → S k ∨ T k) → (∀ k, S' k → ¬ T' k) → St w0 w' (P' :: Q' :: L) := by
  obtain ⟨⟨S, l, p, d, T, l2, p2, d2, r⟩, b⟩ := h
  refine ⟨S, T, p, p2, fun k h1 h2 => (d2 k h2).2 (Or.inr h1), fun {w' P' Q' S' T'} c l' p' m' q' hs ht dis => ⟨⟨S', l', p', fun k hk => ⟨?_, fun q => q⟩, T', m', q', fun k hk => ⟨?_, fun q => q.elim (fun q => q) (fun q => dis k q hk)⟩, ?_⟩, below_chg b c (fun k hk q => ?_) (Nat.le_refl _)⟩⟩
  · rcases Nat.lt_or_ge k w.heap.size with h1 | h1
    · exact (hs k h1 hk).elim (fun q => (d k q).1) (fun q => (d2 k q).1)
    · exact Nat.le_trans b.size h1
  · rcases Nat.lt_or_ge k w.heap.size with h1 | h1
    · exact (ht k h1 hk).elim (fun q => (d k q).1) (fun q => (d2 k q).1)
    · exact Nat.le_trans b.size h1
  · refine r.frame (fun k h1 h2 => c.block k (fun q => h2 (q.elim (fun q => Or.inl (Or.inr q)) Or.inr)) h1) (fun k h1 h2 => ?_)
    rcases h2 with (q | q) | q
    · exact q.elim
    · exact (hs k h1 q).elim (fun q => Or.inl (Or.inr q)) Or.inr
    · exact (ht k h1 q).elim (fun q => Or.inl (Or.inr q)) Or.inr
  · rcases q with q | q
    · have := (d k q).1; omega
    · have := (d2 k q).1; omega
/-- What holds of the first object. -/
theorem St.hd {w0 w : World} {P : HP} {L : List HP} (h : St w0 w (P :: L)) : ∃ S, P w S := by obtain ⟨⟨S, l, p, d, r⟩, b⟩ := h; exact ⟨S, p⟩
end Go.Proofs.YtkhcdichdnbcmaaR
