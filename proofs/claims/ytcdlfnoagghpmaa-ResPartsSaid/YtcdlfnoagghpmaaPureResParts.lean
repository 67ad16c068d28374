/- The plain law of ResParts, and its walk. -/
import Derived.Test.YtcdlfnoagghpmaaResP
import Derived.Test.YtcdlfnoagghpmaaX7
import Derived.Test.YtcdlfnoagghpmaaOpen
import Derived.Test.YtcdlfnoagghpmaaPureResSums
namespace Go.Proofs.Ytcdlfnoagghpmaa.Pure
open Go.RowKit Go.Proofs.Ytcdlfnoagghpmaa Go.Proofs.Ytcdlfnoagghpmaa.Ext Go.Proofs.Ytcdlfnoagghpmaa.X Go.Proofs.YtcdlfnoagghpmaaW.PrintWords Go.Proofs.YtcdlfnoagghpmaaW.PrintLast
set_option linter.unusedVariables false
set_option linter.unusedSimpArgs false

theorem okR3_iff' (a : R3) : okR3 a = true ↔ (0 ≤ a.c ∧ a.c ≤ 1099511627776) ∧ (0 ≤ a.m ∧ a.m ≤ 1099511627776) ∧ (0 ≤ a.d ∧ a.d ≤ 1099511627776) := okR_iff _ _ _
def tot : List R3 → R3
  | [] => ⟨0, 0, 0⟩
  | r :: l => addR r (tot l)
def nn (a : R3) : Prop := 0 ≤ a.c ∧ 0 ≤ a.m ∧ 0 ≤ a.d
theorem tot_nn (l : List R3) (h : l.all okR3 = true) : nn (tot l) := by
  induction l with
  | nil => exact ⟨Int.le_refl _, Int.le_refl _, Int.le_refl _⟩
  | cons r l ih =>
    simp only [List.all_cons, Bool.and_eq_true] at h
    have h1 := (okR3_iff' _).1 h.1
    obtain ⟨a, b, c⟩ := ih h.2
    exact ⟨by show 0 ≤ r.c + (tot l).c; omega, by show 0 ≤ r.m + (tot l).m; omega, by show 0 ≤ r.d + (tot l).d; omega⟩
theorem addR_assoc (a b c : R3) : addR (addR a b) c = addR a (addR b c) := by simp [addR, Int.add_assoc]
theorem addR_comm' (a b : R3) : addR a b = addR b a := by unfold addR; congr 1 <;> omega
theorem addR_zero (a : R3) : addR a ⟨0, 0, 0⟩ = a := by simp [addR]
theorem zero_addR (a : R3) : addR ⟨0, 0, 0⟩ a = a := by simp [addR]
theorem tot_append (a b : List R3) : tot (a ++ b) = addR (tot a) (tot b) := by
  induction a with
  | nil => rw [List.nil_append]; exact (zero_addR _).symm
  | cons r l ih => show addR r (tot (l ++ b)) = _; rw [ih, ← addR_assoc]; rfl
theorem tot_one (a : R3) : tot [a] = a := addR_zero a
theorem tot_reverse (l : List R3) : tot l.reverse = tot l := by
  induction l with
  | nil => rfl
  | cons r l ih => rw [List.reverse_cons, tot_append, ih, tot_one, addR_comm']; rfl
theorem ok_part {a b : R3} (ha : nn a) (hb : nn b) (h : okR3 (addR a b) = true) : okR3 a = true := by
  obtain ⟨p, q, r⟩ := (okR3_iff' _).1 h
  obtain ⟨a1, a2, a3⟩ := ha
  obtain ⟨b1, b2, b3⟩ := hb
  simp only [addR] at p q r
  exact (okR3_iff' _).2 ⟨⟨by omega, by omega⟩, ⟨by omega, by omega⟩, ⟨by omega, by omega⟩⟩
theorem sumF_tot (l : List R3) : ∀ acc, okR3 acc = true → sumF acc l = if l.all okR3 = true ∧ okR3 (addR acc (tot l)) = true then (addR acc (tot l), true) else (⟨0, 0, 0⟩, false) := by
  induction l with
  | nil =>
    intro acc h
    rw [show tot [] = ⟨0, 0, 0⟩ from rfl, addR_zero, if_pos ⟨rfl, h⟩]; rfl
  | cons r l ih =>
    intro acc h
    show (if okR3 r = true ∧ okR3 (addR acc r) = true then sumF (addR acc r) l else (⟨0, 0, 0⟩, false)) = _
    have e : addR acc (tot (r :: l)) = addR (addR acc r) (tot l) := (addR_assoc _ _ _).symm
    by_cases h1 : okR3 r = true ∧ okR3 (addR acc r) = true
    · rw [if_pos h1, ih _ h1.2, e]
      have : ((r :: l).all okR3 = true) ↔ l.all okR3 = true := by simp [h1.1]
      simp only [this]
    · rw [if_neg h1, if_neg]
      rintro ⟨h2, h3⟩
      simp only [List.all_cons, Bool.and_eq_true] at h2
      rw [e] at h3
      have p1 := (okR3_iff' _).1 h
      have p2 := (okR3_iff' _).1 h2.1
      refine h1 ⟨h2.1, ok_part (b := tot l) ⟨?_, ?_, ?_⟩ (tot_nn l h2.2) h3⟩ <;> (simp only [addR]; omega)
/-- The sum of a list, from nothing. -/
def S0 (l : List R3) : R3 × Bool := sumF ⟨0, 0, 0⟩ l
theorem S0_eq (l : List R3) : S0 l = if l.all okR3 = true ∧ okR3 (tot l) = true then (tot l, true) else (⟨0, 0, 0⟩, false) := by
  have := sumF_tot l ⟨0, 0, 0⟩ (by decide)
  rwa [zero_addR] at this
theorem S0_reverse (l : List R3) : S0 l.reverse = S0 l := by rw [S0_eq, S0_eq, tot_reverse, List.all_reverse]
theorem S0_true {l : List R3} (h : (S0 l).2 = true) : l.all okR3 = true ∧ okR3 (tot l) = true ∧ S0 l = (tot l, true) := by
  rw [S0_eq] at h ⊢
  split at h
  · rename_i h1; rw [if_pos h1]; exact ⟨h1.1, h1.2, rfl⟩
  · cases h
theorem S0_more (l : List R3) (m : R3) (h : (S0 l).2 = true) : add2 (S0 l).1 m = S0 (l ++ [m]) := by
  obtain ⟨h1, h2, h3⟩ := S0_true h
  rw [h3, S0_eq, add2_eq', tot_append, tot_one]
  simp only [h2, List.all_append, h1, List.all_cons, List.all_nil, Bool.and_true, Bool.true_and, true_and]
theorem S0_less (l : List R3) (m : R3) (h : (S0 (l ++ [m])).2 = true) : (S0 l).2 = true := by
  obtain ⟨h1, h2, _⟩ := S0_true h
  rw [List.all_append, Bool.and_eq_true] at h1
  rw [tot_append, tot_one] at h2
  have hm : okR3 m = true := by simpa using h1.2
  have p := (okR3_iff' _).1 hm
  rw [S0_eq, if_pos ⟨h1.1, ok_part (tot_nn l h1.1) ⟨by omega, by omega, by omega⟩ h2⟩]
theorem S0_parts (l : List R3) (n : Nat) (h : (S0 l).2 = true) : (S0 (l.take n)).2 = true ∧ (S0 (l.drop n)).2 = true ∧ add2 (S0 (l.take n)).1 (S0 (l.drop n)).1 = S0 l ∧ fitsB (S0 (l.take n)).1.c (S0 (l.take n)).1.m (S0 (l.take n)).1.d (S0 l).1.c (S0 l).1.m (S0 l).1.d = true := by
  obtain ⟨h1, h2, h3⟩ := S0_true h
  have e : tot l = addR (tot (l.take n)) (tot (l.drop n)) := by rw [← tot_append, List.take_append_drop]
  have ha : (l.take n).all okR3 = true ∧ (l.drop n).all okR3 = true := by
    rw [← List.take_append_drop n l, List.all_append, Bool.and_eq_true] at h1
    exact h1
  have n1 := tot_nn _ ha.1
  have n2 := tot_nn _ ha.2
  rw [e] at h2
  have o1 := ok_part n1 n2 h2
  have o2 := ok_part n2 n1 (by rwa [addR_comm'] at h2)
  have s1 : S0 (l.take n) = (tot (l.take n), true) := by rw [S0_eq, if_pos ⟨ha.1, o1⟩]
  have s2 : S0 (l.drop n) = (tot (l.drop n), true) := by rw [S0_eq, if_pos ⟨ha.2, o2⟩]
  rw [s1, s2, h3]
  refine ⟨rfl, rfl, ?_, ?_⟩
  · rw [add2_eq', if_pos ⟨o1, o2, h2⟩, e]
  · rw [fitsB_iff, e]
    obtain ⟨b1, b2, b3⟩ := n2
    simp only [addR]
    exact ⟨by omega, by omega, by omega⟩
theorem resSum_f (l : List (S37)) (h : l.length ≤ 100) : res_Sum.f l = some (tup (S0 (l.map toR))) := by
  unfold res_Sum.f
  rw [if_pos (by omega)]
  rfl
theorem cut_range (x : Int) (n : Nat) (hn : n ≤ 30) : ∃ c : Nat, c ≤ n ∧ wrap64 ((n : Int) + 1) = (n : Int) + 1 ∧ Int.tmod (wrap64 ((wrap64 ((Int.tmod x ((n : Int) + 1)) + (n : Int))) + 1)) ((n : Int) + 1) = c := by
  have h0 : wrap64 ((n : Int) + 1) = (n : Int) + 1 := by unfold wrap64; omega
  have h1 : Int.tmod x ((n : Int) + 1) < (n : Int) + 1 := Int.tmod_lt_of_pos _ (by omega)
  have h2 : -((n : Int) + 1) < Int.tmod x ((n : Int) + 1) := by
    have := Int.tmod_lt_of_pos (-x) (show (0 : Int) < (n : Int) + 1 by omega)
    rw [Int.neg_tmod] at this
    omega
  generalize Int.tmod x ((n : Int) + 1) = y at *
  have e1 : wrap64 (y + (n : Int)) = y + n := by unfold wrap64; omega
  have e2 : wrap64 (y + (n : Int) + 1) = y + n + 1 := by unfold wrap64; omega
  rw [e1, e2]
  have h3 : 0 ≤ Int.tmod (y + n + 1) ((n : Int) + 1) := Int.tmod_nonneg _ (by omega)
  have h4 : Int.tmod (y + n + 1) ((n : Int) + 1) < (n : Int) + 1 := Int.tmod_lt_of_pos _ (by omega)
  exact ⟨(Int.tmod (y + n + 1) ((n : Int) + 1)).toNat, by omega, h0, by omega⟩
theorem resParts_j2 (k : Nat) (l : List (S37)) (cut : Int) (v : Bool) (hl : l.length ≤ 30) (h : (S0 (l.map toR)).2 = true) :
    sacristanlaw09_ResParts.j2 (k + 1) l cut true v false (S0 (l.map toR)).1.c (S0 (l.map toR)).1.m (S0 (l.map toR)).1.d = some true := by
  obtain ⟨c, hc, h0, h1⟩ := cut_range cut l.length hl
  rw [sacristanlaw09_ResParts.j2]
  simp only [h0, h1, Int.toNat_natCast]
  rw [if_neg (by simp), if_neg (by omega), if_pos (by omega), if_pos (by omega)]
  rw [resSum_f (l.take c) (by rw [List.length_take]; omega), Option.bind_some, resSum_f (l.drop c) (by rw [List.length_drop]; omega), Option.bind_some, List.map_take, List.map_drop]
  obtain ⟨p1, p2, p3, p4⟩ := S0_parts (l.map toR) c h
  simp only [res_Add.f, Option.bind_some, tup]
  rw [if_pos p1, if_pos p2]
  show (if (add2 (S0 (List.take c (List.map toR l))).1 (S0 (List.drop c (List.map toR l))).1).2 = true then _ else _) = _
  rw [p3, if_pos h]
  simp only [beq_self_eq_true, Bool.not_true, Bool.or_self, res_Fits.f, Option.bind_some]
  rw [if_neg (by simp), if_pos p4, if_pos trivial]
  rfl
theorem resParts_j1 (k : Nat) (l : List (S37)) (cut : Int) (more : S37) (hl : l.length ≤ 30) :
    sacristanlaw09_ResParts.j1 (k + 2) l cut l.reverse (S0 (l.map toR)).2 false more.f0 more.f1 more.f2 (S0 (l.map toR)).1.c (S0 (l.map toR)).1.m (S0 (l.map toR)).1.d = some true := by
  rw [sacristanlaw09_ResParts.j1]
  have hm : (l.reverse ++ [(⟨more.f0, more.f1, more.f2⟩ : S37)]).map toR = (l.map toR).reverse ++ [toR more] := by rw [List.map_append, List.map_reverse]; rfl
  rw [if_neg (by simp), if_pos (by simp; omega), resSum_f _ (by simp; omega), hm, Option.bind_some]
  by_cases h : (S0 (l.map toR)).2 = true
  · rw [if_pos h]
    have hr : (S0 (l.map toR).reverse).2 = true := by rw [S0_reverse]; exact h
    have ha := S0_more _ (toR more) hr
    rw [S0_reverse] at ha
    simp only [res_Add.f, Option.bind_some]
    rw [show add2 ⟨(S0 (l.map toR)).1.c, (S0 (l.map toR)).1.m, (S0 (l.map toR)).1.d⟩ ⟨more.f0, more.f1, more.f2⟩ = S0 ((l.map toR).reverse ++ [toR more]) from ha]
    simp only [beq_self_eq_true, Bool.not_true, Bool.or_self, bne_self_eq_false]
    rw [if_neg (by simp), h]
    exact resParts_j2 k l cut _ hl h
  · rw [if_neg h, if_neg]
    · rfl
    · intro h2
      have := S0_less _ _ h2
      rw [S0_reverse] at this
      exact h this
theorem resParts_l0 (l : List (S37)) (cut : Int) (more : S37) (hl : l.length ≤ 30) (i : Nat) : ∀ k, i ≤ l.length → i + 4 ≤ k →
    sacristanlaw09_ResParts.l0 k l cut (l.drop i).reverse ((i : Int) - 1) more.f0 more.f1 more.f2 = some true := by
  induction i with
  | zero =>
    intro k hi hk
    obtain ⟨k, rfl⟩ : ∃ m, k = m + 3 := ⟨k - 3, by omega⟩
    rw [sacristanlaw09_ResParts.l0, if_neg (by omega), List.drop_zero, resSum_f l (by omega), Option.bind_some, resSum_f _ (by simp; omega), Option.bind_some, List.map_reverse, S0_reverse]
    simp only [beq_self_eq_true, Bool.not_true, Bool.or_self, bne_self_eq_false]
    rw [if_neg (by simp)]
    exact resParts_j1 k l cut more hl
  | succ i ih =>
    intro k hi hk
    obtain ⟨k, rfl⟩ : ∃ m, k = m + 1 := ⟨k - 1, by omega⟩
    have e0 : ((i + 1 : Nat) : Int) - 1 = (i : Int) := by omega
    rw [sacristanlaw09_ResParts.l0, e0, if_pos (by omega), if_pos (by omega), if_pos (by omega), if_pos (by simp; omega)]
    have hg : (⟨(rd_T37 l i).f0, (rd_T37 l i).f1, (rd_T37 l i).f2⟩ : S37) = l[i] := by
      have : rd_T37 l i = l[i] := by simp [rd_T37, show i < l.length by omega]
      rw [this]
    rw [hg, show (l.drop (i + 1)).reverse ++ [l[i]] = (l.drop i).reverse by rw [List.drop_eq_getElem_cons (show i < l.length by omega), List.reverse_cons], show wrap64 ((i : Int) - 1) = (i : Int) - 1 by unfold wrap64; omega]
    exact ih k (by omega) (by omega)
theorem resParts_eq (l : List (S37)) (a b c cut : Int) : sacristanlaw09_ResParts.f 100 l a b c cut = some true := by
  unfold sacristanlaw09_ResParts.f
  have hm : ∃ n : Nat, mn (l.length : Int) 30 = n ∧ n ≤ 30 ∧ n ≤ l.length := by
    unfold mn
    split
    · exact ⟨30, rfl, by omega, by omega⟩
    · exact ⟨l.length, rfl, by omega, by omega⟩
  obtain ⟨n, hn, h30, hle⟩ := hm
  rw [hn, if_pos (by omega), if_pos (by omega), Int.toNat_natCast, Option.bind_some]
  generalize hx : l.take n = x
  have hl : x.length ≤ 30 := by rw [← hx, List.length_take]; omega
  rw [show wrap64 ((x.length : Int) - 1) = (x.length : Int) - 1 by unfold wrap64; omega]
  have := resParts_l0 x cut ⟨a, b, c⟩ hl x.length 100 (by omega) (by omega)
  rwa [List.drop_eq_nil_of_le (Nat.le_refl _), List.reverse_nil] at this
end Go.Proofs.Ytcdlfnoagghpmaa.Pure
namespace Go.Proofs.Ytcdlfnoagghpmaa
open Go.RowKit Go.Proofs.Ytcdlfnoagghpmaa.X
theorem walk_ResParts (w : World) (A : Option Addr) (c : Nat) (l : List E37) (h : SL42 w A c l) (x y z : Int) (_ : (Lit.int .i64 x).wf = true) (_ : (Lit.int .i64 y).wf = true) (_ : (Lit.int .i64 z).wf = true) (cut : Int) (_ : (Lit.int .i64 cut).wf = true) : Calls Try.prog 12 #[.slice A l.length c, .agg #[.int .i64 x, .int .i64 y, .int .i64 z], .int .i64 cut] w fun e w' => e = .returned (.bool true) ∧ Below w.heap.size w w' := by
  obtain ⟨h1, h2⟩ := Pure.readsRes h
  have := sacristanlaw09_ResParts.calls 100 A c (l.map Pure.toS) x y z cut true w h1 h2 (Pure.resParts_eq _ _ _ _ _) rfl
  rwa [List.length_map] at this
end Go.Proofs.Ytcdlfnoagghpmaa
