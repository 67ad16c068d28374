/- Tokens as a map's keys, and what a map of tokens holds. -/
import Derived.Test.YtccehechhdndmaaBase
import Derived.Test.YtccehechhdndmaaProg
import Derived.Lib.Hide
import Derived.Maps.RangeWalk
import Derived.Maps.OwnOps
import Derived.DeepKeys4
namespace Go.Proofs.Ytccehechhdndmaa
open Go.RowKit
set_option linter.unusedSimpArgs false
set_option linter.unusedVariables false

structure Tok where
  (a b c : Int)
theorem Tok.ext_iff' {s t : Tok} : s = t ↔ (s.a = t.a ∧ s.b = t.b ∧ s.c = t.c) := by cases s; cases t; simp
instance tokDec : DecidableEq Tok := fun s t => decidable_of_iff _ (Tok.ext_iff' (s := s) (t := t)).symm
def tokV (t : Tok) : Value := .agg #[.int .i64 t.a, .int .i64 t.b, .int .i64 t.c]
def wI (a : Int) : Prop := (Lit.int .i64 a).wf = true
def tokW (t : Tok) : Prop := wI t.a ∧ wI t.b ∧ wI t.c
def tkl (t : Tok) : Lit := .string (keyBytes [.int .i64 t.a, .int .i64 t.b, .int .i64 t.c])
def tokOk (t : Tok) : Bool := decide (0 ≤ t.a) && decide (t.a ≤ 2147483648) && decide (0 ≤ t.b) && decide (t.b ≤ 3) && decide (1 ≤ t.c) && decide (t.c ≤ 1099511627776)
def tokE (t : Tok) : Int := if tokOk t = true then 0 else 3

theorem tok_laidOut : laidOutB Try.prog = true := by kernel_rfl
theorem tok_row : (32 : TypeId) < Try.prog.types.size := of_decide_eq_true (by kernel_rfl)
theorem tok_wide : (match Try.prog.underlying 32 with | some (.array _ _) | some (.struct _) => true | _ => false) = true := by kernel_rfl
set_option maxRecDepth 100000 in
theorem tok_law0 : WideMaps.KeyLaw Try.prog 32 := deep_law_laid tok_laidOut (m := 2) (Nat.le_of_ble_eq_true rfl) tok_row (by kernel_rfl) tok_wide
theorem tok_law : Maps.Keyed Try.prog 32 := Maps.Keyed.of_law tok_law0
theorem tok_cells : Try.prog.cellsOf 32 = 3 := by kernel_rfl
theorem tok_cell1 : Try.prog.cellsOf 3 = 1 := by kernel_rfl
theorem tok_kt : Try.prog.keyType 32 = true := by kernel_rfl
theorem tok_sz : ∃ m, Try.prog.types.size = m + 1 := ⟨Try.prog.types.size - 1, by have : 2 < Try.prog.types.size := of_decide_eq_true (by kernel_rfl); omega⟩
theorem tok_key {t : Tok} (h : tokW t) : keyOf Try.prog 32 (tokV t) = some (tkl t) := by
  obtain ⟨h0, h1, h2⟩ := h
  unfold wI at h0 h1 h2
  obtain ⟨m, hm⟩ := tok_sz
  unfold keyOf
  simp only [Try.underlying32]
  rw [if_pos (by simp [tok_kt, tokV, Value.formed, Try.underlying32, tok_cells]), hm]
  unfold Program.keyLits
  simp [Try.underlying32, Try.underlying3, tok_cells, tok_cell1, tokV, Value.cells, Program.keyLits, h0, h1, h2, tkl]
theorem lits_int {d : Nat} {c : Value} {ls : List Lit} (h : Try.prog.keyLits (d + 1) 3 [c] = some ls) : ∃ a, c = .int .i64 a ∧ wI a ∧ ls = [.int .i64 a] := by
  unfold Program.keyLits at h
  simp only [Try.underlying3] at h
  cases c <;> simp at h
  obtain ⟨⟨rfl, h1⟩, rfl⟩ := h
  exact ⟨_, rfl, h1, rfl⟩
set_option maxRecDepth 100000 in
theorem tok_inv {v : Value} {l : Lit} (h : keyOf Try.prog 32 v = some l) : ∃ t, tokW t ∧ v = tokV t ∧ l = tkl t := by
  have h0 := h
  obtain ⟨m, hm⟩ := tok_sz
  unfold keyOf at h
  simp only [Try.underlying32] at h
  split at h
  · rename_i hc
    simp only [Bool.and_eq_true] at hc
    have hf := hc.2
    cases v <;> simp [Value.formed, Try.underlying32, tok_cells] at hf
    rename_i cs
    obtain ⟨cl⟩ := cs
    match cl, hf with
    | [c0, c1, c2], _ =>
      rw [hm] at h
      unfold Program.keyLits at h
      simp only [Try.underlying32, Value.cells, tok_cells] at h
      simp [tok_cell1] at h
      cases hx0 : Try.prog.keyLits (m + 1) 3 [c0] with
      | none => simp [hx0] at h
      | some y0 =>
      cases hx1 : Try.prog.keyLits (m + 1) 3 [c1] with
      | none => simp [hx0, hx1] at h
      | some y1 =>
      cases hx2 : Try.prog.keyLits (m + 1) 3 [c2] with
      | none => simp [hx0, hx1, hx2] at h
      | some y2 =>
      simp [hx0, hx1, hx2] at h
      subst h
      obtain ⟨a0, rfl, w0, rfl⟩ := lits_int hx0
      obtain ⟨a1, rfl, w1, rfl⟩ := lits_int hx1
      obtain ⟨a2, rfl, w2, rfl⟩ := lits_int hx2
      exact ⟨⟨a0, a1, a2⟩, ⟨w0, w1, w2⟩, rfl, rfl⟩
  · cases h
theorem tok_inj {s t : Tok} (hs : tokW s) (ht : tokW t) (h : tkl s = tkl t) : s = t := by
  have e := tok_law.inj (tok_key hs) (h ▸ tok_key ht)
  obtain ⟨s0, s1, s2⟩ := s
  obtain ⟨t0, t1, t2⟩ := t
  simp [tokV] at e
  simp [e]
/-- The map D (as it reads) holds f. -/
def mapF (D : DataW Unit) (f : Tok → Nat) : Prop := ∀ t, tokW t → D.atKey (tkl t) (.lit (.int .i64 0)) = .lit (.int .i64 (f t))
def tellF (f : Tok → Nat) (t : Tok) (ok : Bool) : Tok → Nat := fun x => if tokOk t = true then (if x = t then (if ok = true then 0 else f t + 1) else f x) else f x
def keepF (f : Tok → Nat) (l : List Tok) : Tok → Nat := fun x => if x ∈ l then f x else 0
theorem mapF_empty : mapF (.map []) (fun _ => 0) := fun t _ => rfl
theorem mapF_put {D : DataW Unit} {f : Tok → Nat} (h : mapF D f) (hD : Maps.IsMap D) {t : Tok} (ht : tokW t) (n : Nat) : mapF (D.put (tkl t) (.lit (.int .i64 n))) (fun x => if x = t then n else f x) := fun x hx => by
  by_cases e : x = t
  · subst e; simp only [if_pos]; exact Maps.atKey_put_same hD (tok_law.key (tok_key hx)) _ _
  · rw [Maps.atKey_put_other (fun q => e (tok_inj hx ht q))]; simp only [if_neg e]; exact h x hx
theorem mapF_del {D : DataW Unit} {f : Tok → Nat} (h : mapF D f) {t : Tok} (ht : tokW t) : mapF (D.del (tkl t)) (fun x => if x = t then 0 else f x) := fun x hx => by
  by_cases e : x = t
  · subst e; simp only [if_pos]; exact Maps.atKey_del_same _
  · rw [Maps.atKey_del_other (fun q => e (tok_inj hx ht q))]; simp only [if_neg e]; exact h x hx
end Go.Proofs.Ytccehechhdndmaa
