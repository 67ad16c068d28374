import Derived.Test.YtldpmeaibkpojaaRBase
import Derived.Test.YtldpmeaibkpojaaRSep
import Derived.Test.YtldpmeaibkpojaaRSepB
import Derived.Test.YtldpmeaibkpojaaRSepK
import Derived.Test.YtldpmeaibkpojaaRWWords
import Derived.Test.YtldpmeaibkpojaaRM8
import Derived.Test.YtldpmeaibkpojaaRPackU
import Derived.Laws.BitsAllLaws
import Derived.Test.YtldpmeaibkpojaaROpen
import Derived.Lib.Hide
import Derived.Deep.Cut
import Derived.Deep.CutRange
import Derived.Deep.RegionWith
import Derived.Test.YtldpmeaibkpojaaRRows
import Derived.WalkKit
import Derived.ProofKit
import Derived.OpenShut
import Derived.ShutString
import Derived.ChangeOld
import Derived.Below
import Derived.SizedLaws
section
/- A row of the law's own of which nothing is told any more but that one may write to it. -/
namespace Go.Proofs.YtldpmeaibkpojaaR
open Go.RowKit Go.Proofs.YtldpmeaibkpojaaRW.PrintWords
set_option linter.unusedVariables false
/-- A row to write to. -/
def loose (e m : Nat) (v : Value) : HP := fun w S => ((m = 0 ∧ v.ownBlock = none) ∨ ∃ g n cap cur, v = .slice (some ⟨g, 0, none⟩) n cap ∧ w.heap[g]? = some (.cells cur e (0, 0)) ∧ m ≤ cur.size) ∧ S = fun k => v.ownBlock = some k
theorem loose_loc (e m : Nat) (v : Value) : Loc (loose e m v) where
  keep := fun ⟨h, e⟩ k => by
    refine ⟨?_, e⟩
    rcases h with h | ⟨g, n, cap, cur, rfl, h1, h2⟩
    · exact .inl h
    · exact .inr ⟨g, n, cap, cur, rfl, (k g (by subst e; rfl)).trans h1, h2⟩
  lt := fun {w S k} ⟨h, e⟩ hk => by
    subst e
    rcases h with h | ⟨g, n, cap, cur, rfl, h1, h2⟩
    · rw [h.2] at hk; cases hk
    · injection hk with hk; subst hk; exact vlt h1
theorem St.loosen {α : Type} {d : Kd α} {e : Nat} {w0 w : World} {L : List HP} {v : Value} {xs : List α} (h : St w0 w (rowK d e v xs :: L)) : St w0 w (loose e (xs.length * d.sz) v :: L) := by
  obtain ⟨S, ⟨hR, rfl⟩, hh⟩ := h.one
  refine hh (Chg.refl _ _) (loose_loc _ _ _) ⟨?_, rfl⟩ (fun _ _ q => q)
  obtain ⟨h0, inner, ho, hr⟩ := hR
  rcases ho.2 with ⟨rfl, hn⟩ | ⟨g, cap, cur, rfl, -, h1, h2, h3, h4, h5⟩
  · exact .inl ⟨by rw [hn]; simp, rfl⟩
  · exact .inr ⟨g, _, cap, cur, rfl, h1, by rw [h4]; exact Nat.mul_le_mul_right _ h2⟩
theorem St.lset {e m : Nat} {w0 w : World} {L : List HP} {A : Option Addr} {n c : Nat} (h : St w0 w (loose e m (.slice A n c) :: L)) (k : Nat) (hk : k < m) (u : Value) :
    ∃ b, A = some ⟨b, 0, none⟩ ∧ (w.cell? ⟨b, k, none⟩).isSome = true ∧ w.frozen? ⟨b, k, none⟩ = false ∧ St w0 (w.setCell ⟨b, k, none⟩ u) (loose e m (.slice A n c) :: L) := by
  obtain ⟨S, ⟨hR, rfl⟩, hh⟩ := h.one
  rcases hR with ⟨h1, _⟩ | ⟨g, n', cap, cur, e1, h1, h2⟩
  · omega
  · injection e1 with ea eb ec
    subst ea; subst eb; subst ec
    refine ⟨g, rfl, ?_, vfree h1 k, ?_⟩
    · rw [vcell h1 k]
      simp; omega
    · exact hh ((Chg.refl _ _).setc rfl) (loose_loc _ _ _) ⟨.inr ⟨g, n, c, _, rfl, blk_set h1 k u, by simpa using h2⟩, rfl⟩ (fun _ _ q => q)
/-- A whole specification's cells are stored. -/
theorem St.set6 {w0 w : World} {L : List HP} {b t : Nat} {x0 x1 x2 x3 x4 x5 : Value} (h : St w0 w (Go.Proofs.YtldpmeaibkpojaaR.blk b #[x0, x1, x2, x3, x4, x5] t :: L)) (y0 y1 y2 y3 y4 y5 : Value) :
    St w0 ((((((w.setCell ⟨b, 0, none⟩ y0).setCell ⟨b, 1, none⟩ y1).setCell ⟨b, 2, none⟩ y2).setCell ⟨b, 3, none⟩ y3).setCell ⟨b, 4, none⟩ y4).setCell ⟨b, 5, none⟩ y5) (Go.Proofs.YtldpmeaibkpojaaR.blk b #[y0, y1, y2, y3, y4, y5] t :: L) :=
  (((((h.setb 0 y0 rfl).setb 1 y1 rfl).setb 2 y2 rfl).setb 3 y3 rfl).setb 4 y4 rfl).setb 5 y5 rfl
end Go.Proofs.YtldpmeaibkpojaaR
end

section
/- Plain laws of the printed functions that SpecMatches reaches. -/
namespace Go.Proofs.YtldpmeaibkpojaaR.PureM
open Go.RowKit Go.Proofs.YtldpmeaibkpojaaR Go.Proofs.YtldpmeaibkpojaaR.Ext Go.Proofs.YtldpmeaibkpojaaR.M Go.Proofs.YtldpmeaibkpojaaRW.PrintWords Go.Proofs.YtldpmeaibkpojaaRW.PrintLast Go.Proofs.YtldpmeaibkpojaaRW.PrintMore
open Go.Proofs.YtldpmeaibkpojaaR.Sp
set_option linter.unusedVariables false
set_option linter.unusedSimpArgs false

theorem w1 {i : Nat} (h : i ≤ 1000) : wrap64 ((i : Int) + 1) = ((i + 1 : Nat) : Int) := by unfold wrap64; omega
theorem rd_at (l : List Int) (i : Nat) (h : i < l.length) : rd l (i : Int) = l[i] := by simp [rd, h]
theorem rdT_at (l : List (S49)) (i : Nat) (h : i < l.length) : rd_T49 l (i : Int) = l[i] := by simp [rd_T49, h]
theorem drop_y {α : Type} (xs ys : List α) (i : Nat) (hx : i < xs.length) (hy : i < ys.length) (h : xs[i] = ys[i]) : (xs.drop i = ys.drop i) ↔ (xs.drop (i + 1) = ys.drop (i + 1)) := by
  rw [List.drop_eq_getElem_cons hx, List.drop_eq_getElem_cons hy, List.cons.injEq]; exact ⟨fun q => q.2, fun q => ⟨h, q⟩⟩
theorem drop_n {α : Type} (xs ys : List α) (i : Nat) (hx : i < xs.length) (hy : i < ys.length) (h : ¬ xs[i] = ys[i]) : ¬ (xs.drop i = ys.drop i) := by
  rw [List.drop_eq_getElem_cons hx, List.drop_eq_getElem_cons hy, List.cons.injEq]; exact fun q => h q.1
theorem eqInts_l0 (xs ys : List Int) (hl : xs.length = ys.length) (hm : xs.length ≤ 1000) (d : Nat) : ∀ k i : Nat, i + d = xs.length → d < k → sacristankit_EqualInts.l0 k xs ys i = some (decide (xs.drop i = ys.drop i)) := by
  induction d with
  | zero =>
    intro k i hi hk
    obtain ⟨k, rfl⟩ : ∃ m, k = m + 1 := ⟨k - 1, by omega⟩
    simp only [sacristankit_EqualInts.l0]
    rw [if_neg (by omega), List.drop_eq_nil_of_le (by omega), List.drop_eq_nil_of_le (by omega)]
    simp
  | succ d ih =>
    intro k i hi hk
    obtain ⟨k, rfl⟩ : ∃ m, k = m + 1 := ⟨k - 1, by omega⟩
    simp only [sacristankit_EqualInts.l0]
    rw [if_pos (by omega), if_pos (by omega), if_pos (by omega), rd_at xs i (by omega), rd_at ys i (by omega)]
    by_cases h : xs[i] = ys[i]
    · rw [if_pos h, w1 (by omega), ih k (i + 1) (by omega) (by omega), decide_eq_decide.2 (drop_y xs ys i (by omega) (by omega) h)]
    · rw [if_neg h, decide_eq_false (drop_n xs ys i (by omega) (by omega) h)]
theorem eqInts (k : Nat) (xs ys : List Int) (hm : xs.length ≤ 1000) (hk : xs.length < k) : sacristankit_EqualInts.f k xs ys = some (decide (xs = ys)) := by
  unfold sacristankit_EqualInts.f
  by_cases h : xs.length = ys.length
  · rw [if_pos (by omega)]
    have := eqInts_l0 xs ys h hm xs.length k 0 (by omega) hk
    simpa using this
  · rw [if_neg (by omega)]
    have : ¬ xs = ys := fun e => h (by rw [e])
    simp [this]
theorem sInts_l0 (xs ys : List Int) (hl : xs.length = ys.length) (hm : xs.length ≤ 1000) (d : Nat) : ∀ k i : Nat, i + d = xs.length → d < k → slices_Equal_int_int.l0 k xs ys xs.length i = some (decide (xs.drop i = ys.drop i)) := by
  induction d with
  | zero =>
    intro k i hi hk
    obtain ⟨k, rfl⟩ : ∃ m, k = m + 1 := ⟨k - 1, by omega⟩
    simp only [slices_Equal_int_int.l0]
    rw [if_neg (by omega), List.drop_eq_nil_of_le (by omega), List.drop_eq_nil_of_le (by omega)]
    simp
  | succ d ih =>
    intro k i hi hk
    obtain ⟨k, rfl⟩ : ∃ m, k = m + 1 := ⟨k - 1, by omega⟩
    simp only [slices_Equal_int_int.l0]
    rw [if_pos (by omega), if_pos (by omega), if_pos (by omega), if_pos (by omega), rd_at xs i (by omega), rd_at ys i (by omega)]
    by_cases h : xs[i] = ys[i]
    · rw [if_pos h, w1 (by omega), ih k (i + 1) (by omega) (by omega), decide_eq_decide.2 (drop_y xs ys i (by omega) (by omega) h)]
    · rw [if_neg h, decide_eq_false (drop_n xs ys i (by omega) (by omega) h)]
theorem sInts (k : Nat) (xs ys : List Int) (hm : xs.length ≤ 1000) (hk : xs.length < k) : slices_Equal_int_int.f k xs ys = some (decide (xs = ys)) := by
  unfold slices_Equal_int_int.f
  by_cases h : xs.length = ys.length
  · rw [if_pos (by omega)]
    have := sInts_l0 xs ys h hm xs.length k 0 (by omega) hk
    simpa using this
  · rw [if_neg (by omega)]
    have : ¬ xs = ys := fun e => h (by rw [e])
    simp [this]
theorem cond_ne (x y : S49) : ((!(x.f0.f0 == y.f0.f0) || (!(x.f0.f1 == y.f0.f1) || (!(x.f0.f2 == y.f0.f2) || (!(x.f0.f3 == y.f0.f3) || (!(x.f0.f4 == y.f0.f4)))))) || (!(x.f1 == y.f1))) = !decide (toTS x = toTS y) := by
  rw [Bool.eq_iff_iff]
  simp [toTS, -Bool.not_eq_eq_eq_not]
  grind
theorem eqTs_l0 (xs ys : List (S49)) (hl : xs.length = ys.length) (hm : xs.length ≤ 1000) (d : Nat) : ∀ k i : Nat, i + d = xs.length → d < k → sacristankit_EqualTaskSpecs.l0 k xs ys i = some (decide ((xs.drop i).map toTS = (ys.drop i).map toTS)) := by
  induction d with
  | zero =>
    intro k i hi hk
    obtain ⟨k, rfl⟩ : ∃ m, k = m + 1 := ⟨k - 1, by omega⟩
    simp only [sacristankit_EqualTaskSpecs.l0]
    rw [if_neg (by omega), List.drop_eq_nil_of_le (by omega), List.drop_eq_nil_of_le (by omega)]
    simp
  | succ d ih =>
    intro k i hi hk
    obtain ⟨k, rfl⟩ : ∃ m, k = m + 1 := ⟨k - 1, by omega⟩
    simp only [sacristankit_EqualTaskSpecs.l0]
    rw [if_pos (by omega), if_pos (by omega), if_pos (by omega), cond_ne, rdT_at xs i (by omega), rdT_at ys i (by omega)]
    by_cases h : toTS xs[i] = toTS ys[i]
    · rw [if_neg (by simp [h]), w1 (by omega), ih k (i + 1) (by omega) (by omega), List.map_drop, List.map_drop, List.map_drop, List.map_drop, decide_eq_decide.2 (drop_y (xs.map toTS) (ys.map toTS) i (by rw [List.length_map]; omega) (by rw [List.length_map]; omega) (by simpa using h))]
    · rw [if_pos (by simp [h]), List.map_drop, List.map_drop, decide_eq_false (drop_n (xs.map toTS) (ys.map toTS) i (by rw [List.length_map]; omega) (by rw [List.length_map]; omega) (by simpa using h))]
theorem eqTs (k : Nat) (xs ys : List (S49)) (hm : xs.length ≤ 1000) (hk : xs.length < k) : sacristankit_EqualTaskSpecs.f k xs ys = some (decide (xs.map toTS = ys.map toTS)) := by
  unfold sacristankit_EqualTaskSpecs.f
  by_cases h : xs.length = ys.length
  · rw [if_pos (by omega)]
    have := eqTs_l0 xs ys h hm xs.length k 0 (by omega) hk
    simpa using this
  · rw [if_neg (by omega)]
    have : ¬ xs.map toTS = ys.map toTS := fun e => h (by have := congrArg List.length e; simpa using this)
    simp [this]
theorem sTs_l0 (xs ys : List (S49)) (hl : xs.length = ys.length) (hm : xs.length ≤ 1000) (d : Nat) : ∀ k i : Nat, i + d = xs.length → d < k → api_TaskSpec_58.l0 k xs ys xs.length i = some (decide ((xs.drop i).map toTS = (ys.drop i).map toTS)) := by
  induction d with
  | zero =>
    intro k i hi hk
    obtain ⟨k, rfl⟩ : ∃ m, k = m + 1 := ⟨k - 1, by omega⟩
    simp only [api_TaskSpec_58.l0]
    rw [if_neg (by omega), List.drop_eq_nil_of_le (by omega), List.drop_eq_nil_of_le (by omega)]
    simp
  | succ d ih =>
    intro k i hi hk
    obtain ⟨k, rfl⟩ : ∃ m, k = m + 1 := ⟨k - 1, by omega⟩
    simp only [api_TaskSpec_58.l0]
    rw [if_pos (by omega), if_pos (by omega), if_pos (by omega), if_pos (by omega), cond_ne, rdT_at xs i (by omega), rdT_at ys i (by omega)]
    by_cases h : toTS xs[i] = toTS ys[i]
    · rw [if_neg (by simp [h]), w1 (by omega), ih k (i + 1) (by omega) (by omega), List.map_drop, List.map_drop, List.map_drop, List.map_drop, decide_eq_decide.2 (drop_y (xs.map toTS) (ys.map toTS) i (by rw [List.length_map]; omega) (by rw [List.length_map]; omega) (by simpa using h))]
    · rw [if_pos (by simp [h]), List.map_drop, List.map_drop, decide_eq_false (drop_n (xs.map toTS) (ys.map toTS) i (by rw [List.length_map]; omega) (by rw [List.length_map]; omega) (by simpa using h))]
theorem sTs (k : Nat) (xs ys : List (S49)) (hm : xs.length ≤ 1000) (hk : xs.length < k) : api_TaskSpec_58.f k xs ys = some (decide (xs.map toTS = ys.map toTS)) := by
  unfold api_TaskSpec_58.f
  by_cases h : xs.length = ys.length
  · rw [if_pos (by omega)]
    have := sTs_l0 xs ys h hm xs.length k 0 (by omega) hk
    simpa using this
  · rw [if_neg (by omega)]
    have : ¬ xs.map toTS = ys.map toTS := fun e => h (by have := congrArg List.length e; simpa using this)
    simp [this]
theorem spOf_eq (a b c d a' b' c' d' : Int) (l l' : List Int) (m m' : List (S49)) : (spOf a b c d l m = spOf a' b' c' d' l' m') ↔ a = a' ∧ (b = b' ∧ c = c' ∧ d = d') ∧ l = l' ∧ m.map toTS = m'.map toTS := by
  unfold spOf
  simp only [SP.mk.injEq]
  constructor
  · rintro ⟨h1, h2, h3, h4, h5, h6⟩; exact ⟨h1, ⟨h2, h3, h4⟩, h5, h6⟩
  · rintro ⟨h1, ⟨h2, h3, h4⟩, h5, h6⟩; exact ⟨h1, h2, h3, h4, h5, h6⟩
theorem eqSpec (k : Nat) (a b c d a' b' c' d' : Int) (l l' : List Int) (m m' : List (S49)) (h1 : l.length ≤ 1000) (h2 : m.length ≤ 1000) (k1 : l.length < k) (k2 : m.length < k) :
    sacristankit_EqualSpec.f k a b c d l m a' b' c' d' l' m' = some (decide (spOf a b c d l m = spOf a' b' c' d' l' m')) := by
  unfold sacristankit_EqualSpec.f
  rw [eqInts k l l' h1 k1, eqTs k m m' h2 k2]
  simp only [Option.bind_some]
  by_cases q1 : a = a'
  · by_cases q2 : (b == b' && (c == c' && (d == d'))) = true
    · rw [if_pos q1, if_pos q2]
      simp only [Bool.and_eq_true, beq_iff_eq] at q2
      by_cases q3 : l = l'
      · simp [spOf_eq, q1, q2, q3]
      · simp [spOf_eq, q1, q2, q3]
    · rw [if_pos q1, if_neg q2]
      simp only [Bool.and_eq_true, beq_iff_eq] at q2
      have : ¬ spOf a b c d l m = spOf a' b' c' d' l' m' := fun e => q2 ((spOf_eq _ _ _ _ _ _ _ _ _ _ _ _).1 e).2.1
      simp [this]
  · rw [if_neg q1]
    have : ¬ spOf a b c d l m = spOf a' b' c' d' l' m' := fun e => q1 ((spOf_eq _ _ _ _ _ _ _ _ _ _ _ _).1 e).1
    simp [this]
theorem sEqual (k : Nat) (a b c d a' b' c' d' : Int) (l l' : List Int) (m m' : List (S49)) (h1 : l.length ≤ 1000) (h2 : m.length ≤ 1000) (k1 : l.length < k) (k2 : m.length < k) :
    spec_Equal.f k a b c d l m a' b' c' d' l' m' = some (decide (spOf a b c d l m = spOf a' b' c' d' l' m')) := by
  unfold spec_Equal.f
  rw [sInts k l l' h1 k1, sTs k m m' h2 k2]
  simp only [Option.bind_some]
  by_cases q1 : a = a'
  · by_cases q2 : (b == b' && (c == c' && (d == d'))) = true
    · rw [if_pos q1, if_pos q2]
      simp only [Bool.and_eq_true, beq_iff_eq] at q2
      by_cases q3 : l = l'
      · simp [spOf_eq, q1, q2, q3]
      · simp [spOf_eq, q1, q2, q3]
    · rw [if_pos q1, if_neg q2]
      simp only [Bool.and_eq_true, beq_iff_eq] at q2
      have : ¬ spOf a b c d l m = spOf a' b' c' d' l' m' := fun e => q2 ((spOf_eq _ _ _ _ _ _ _ _ _ _ _ _).1 e).2.1
      simp [this]
  · rw [if_neg q1]
    have : ¬ spOf a b c d l m = spOf a' b' c' d' l' m' := fun e => q1 ((spOf_eq _ _ _ _ _ _ _ _ _ _ _ _).1 e).1
    simp [this]
theorem mn_nat (n m : Nat) : mn (n : Int) (m : Int) = ((min n m : Nat) : Int) := by unfold mn; split <;> omega
theorem few (a b c d : Int) (l : List Int) (m : List (S49)) : sacristanlaw13_Few.f a b c d l m = some (a, b, c, d, l.take 20, m.take 10) := by
  unfold sacristanlaw13_Few.f
  have e1 := mn_nat l.length 20
  have e2 := mn_nat m.length 10
  have e1 : mn (l.length : Int) 20 = ((min l.length 20 : Nat) : Int) := e1
  have e2 : mn (m.length : Int) 10 = ((min m.length 10 : Nat) : Int) := e2
  rw [e1, e2, if_pos (by omega), if_pos (by omega), Int.toNat_natCast, Int.toNat_natCast]
  have t1 : l.take (min l.length 20) = l.take 20 := by rw [List.take_eq_take_iff]; omega
  have t2 : m.take (min m.length 10) = m.take 10 := by rw [List.take_eq_take_iff]; omega
  rw [t1, t2]
  unfold sacristankit_CopyInts.f sacristankit_CopyTaskSpecs.f
  rw [if_pos (by rw [List.length_take]; omega), Option.bind_some, if_pos (by omega), if_pos (by omega), if_pos (by simp; omega), Option.bind_some]
  simp
section
open Go.Proofs.YtldpmeaibkpojaaR.Pk
theorem mkB_data (s : ByteArray) : mkB s.data.toList = s := by
  show (⟨s.data.toList.toArray⟩ : ByteArray) = s
  rw [Array.toArray_toList]
theorem data_mkB (l : List UInt8) : (mkB l).data.toList = l := rfl
theorem mkB_size (l : List UInt8) : (mkB l).size = l.length := by
  show l.toArray.size = l.length
  simp
theorem size_data (s : ByteArray) : s.data.toList.length = s.size := by
  rw [Array.length_toList]
  rfl
theorem mkB_append (a b : List UInt8) : mkB a ++ mkB b = mkB (a ++ b) := by
  apply ByteArray.ext
  rw [ByteArray.data_append]
  show a.toArray ++ b.toArray = (a ++ b).toArray
  simp
theorem mkB_extract (l : List UInt8) (i j : Nat) : (mkB l).extract i j = mkB ((l.take j).drop i) := by
  apply ByteArray.ext
  simp [mkB, ByteArray.data_extract, List.extract_eq_take_drop, List.drop_take]
theorem mkB_toList (l : List UInt8) : (mkB l).toList = l := by rw [ByteArray.toList_eq]; exact data_mkB l
theorem mkB_inj {a b : List UInt8} (h : mkB a = mkB b) : a = b := by rw [← data_mkB a, h, data_mkB]
theorem bt_mkB (l : List UInt8) (i : Nat) : bt (mkB l) i = (l.getD i 0).toNat := by
  unfold bt
  split
  · rename_i h
    have hl : i < l.length := by simpa [mkB_size] using h
    simp [mkB, hl, ByteArray.getElem_eq_getElem_data]
  · rename_i h
    have hl : l.length ≤ i := by simpa [mkB_size] using h
    simp [hl]

theorem vl_take_succ (l : List UInt8) (i : Nat) (h : i < l.length) : vl (l.take (i + 1)) = vl (l.take i) * 256 + (l.getD i 0).toNat := by
  rw [List.take_succ_eq_append_getElem h, vl_snoc]
  simp [h]
theorem vl_take_lt (l : List UInt8) (i : Nat) (hl : l.length ≤ 8) (hi : i < l.length) : vl (l.take i) < 72057594037927936 := by
  have h := vl_lt (l.take i)
  rw [List.length_take, Nat.min_eq_left (by omega)] at h
  have h2 : 256 ^ i ≤ 256 ^ 7 := Nat.pow_le_pow_right (by omega) (by omega)
  have h3 : (256 : Nat) ^ 7 = 72057594037927936 := by decide
  omega
theorem unvar_lt {l r : List UInt8} {n : Nat} (h : unvarL l = some (n, r)) : n < 18446744073709551616 := (var_unvar h).2
def unvarR (l : List UInt8) : Int × ByteArray × Int := match unvarL l with | none => (0, mkB [], 4) | some (n, r) => ((n : Int), mkB r, 0)
theorem tdiv_256 (n : Nat) (hn : n < 18446744073709551616) : IntKind.u64.wrap (Int.tdiv (n : Int) 256) = ((n / 256 : Nat) : Int) := by
  rw [Int.tdiv_eq_ediv_of_nonneg (by omega), IntWalk.u64_in _ (by omega)]
  omega
theorem width_l0 (d : Nat) : ∀ (k n c : Nat), n < 18446744073709551616 → lw n ≤ d → d < k → c + d ≤ 1000 →
    sacristanref02_Width.l0 k n c = some ((c + (lw n - 1) : Nat) : Int) := by
  induction d with
  | zero =>
    intro k n c hn hd hk hc
    obtain ⟨k, rfl⟩ : ∃ m, k = m + 1 := ⟨k - 1, by omega⟩
    have : n = 0 := by
      have := (lw_le_iff n 0).1 hd
      simpa using this
    subst this
    simp only [sacristanref02_Width.l0]
    rw [if_neg (by omega), lw_zero]
    rfl
  | succ d ih =>
    intro k n c hn hd hk hc
    obtain ⟨k, rfl⟩ : ∃ m, k = m + 1 := ⟨k - 1, by omega⟩
    simp only [sacristanref02_Width.l0]
    by_cases h : n > 255
    · have h1 : lw n = lw (n / 256) + 1 := lw_pos (by omega)
      have h2 : lw (n / 256) ≠ 0 := by rw [lw_pos (by omega)]; omega
      rw [if_pos (by omega), tdiv_256 n hn, show wrap64 ((c : Int) + 1) = ((c + 1 : Nat) : Int) from by unfold wrap64; omega]
      rw [ih k (n / 256) (c + 1) (by omega) (by omega) (by omega) (by omega)]
      congr 2
      omega
    · have h1 : lw n ≤ 1 := (lw_le_iff n 1).2 (by omega)
      rw [if_neg (by omega)]
      congr 2
      omega
theorem width_eq (k : Nat) (hk : 10 ≤ k) (n : Nat) (hn : n < 18446744073709551616) : sacristanref02_Width.f k n = some ((1 + (lw n - 1) : Nat) : Int) := by
  unfold sacristanref02_Width.f
  exact width_l0 8 k n 1 hn (lw_le_8 hn) (by omega) (by omega)
theorem refbytes_l0 (i : Nat) : ∀ (k n : Nat) (xs : List Int), n < 18446744073709551616 → i ≤ xs.length → xs.length ≤ 100 → i < k →
    sacristanref02_bytes.l0 k n xs ((i : Int) - 1) = some (strOfNums (beB i n ++ xs.drop i)) := by
  induction i with
  | zero =>
    intro k n xs hn hi hx hk
    obtain ⟨k, rfl⟩ : ∃ m, k = m + 1 := ⟨k - 1, by omega⟩
    simp only [sacristanref02_bytes.l0]
    rw [if_neg (by omega)]
    rfl
  | succ i ih =>
    intro k n xs hn hi hx hk
    obtain ⟨k, rfl⟩ : ∃ m, k = m + 1 := ⟨k - 1, by omega⟩
    simp only [sacristanref02_bytes.l0]
    have e : (((i + 1 : Nat) : Int) - 1) = (i : Int) := by omega
    rw [e, if_pos (by omega), if_pos (by omega), if_pos (by omega), tdiv_256 n hn, Int.toNat_natCast]
    rw [show wrap64 ((i : Int) - 1) = (i : Int) - 1 from by unfold wrap64; omega]
    rw [ih k (n / 256) _ (by omega) (by simp; omega) (by simpa using hx) (by omega)]
    have e2 : Int.tmod (n : Int) 256 % 256 = (n : Int) % 256 := by rw [Int.tmod_eq_emod_of_nonneg (by omega)]; omega
    rw [e2, beB]
    congr 1
    rw [List.append_assoc]
    congr 2
    rw [List.drop_eq_getElem_cons (by simp; omega)]
    simp [List.drop_set_of_lt]
theorem refbytes_eq (k : Nat) (n w : Nat) (hn : n < 18446744073709551616) (hw : w ≤ 100) (hk : w < k) : sacristanref02_bytes.f k n w = some (mkB (be w n)) := by
  unfold sacristanref02_bytes.f
  rw [if_pos (by omega), if_pos (by omega), Int.toNat_natCast]
  rw [show wrap64 ((w : Int) - 1) = (w : Int) - 1 from by unfold wrap64; omega]
  rw [refbytes_l0 w k n _ hn (by simp) (by simp; omega) hk, List.drop_of_length_le (by simp), List.append_nil, beB_eq]
theorem rvar_eq (k : Nat) (hk : 20 ≤ k) (n : Nat) (hn : n < 18446744073709551616) : sacristanref02_Var.f k n = some (mkB (varL n)) := by
  unfold sacristanref02_Var.f varL
  have h8 := lw_le_8 hn
  by_cases h : n < 248
  · rw [if_pos (by omega), if_pos h]
    have := refbytes_eq k n 1 hn (by omega) (by omega)
    rw [show ((1 : Nat) : Int) = 1 from rfl] at this
    rw [this, Option.bind_some]
    have e : be 1 n = [UInt8.ofNat n] := by simp [be, Nat.mod_eq_of_lt (show n < 256 by omega)]
    rw [e]
  · have h1 : 1 ≤ lw n := by rw [lw_pos (by omega)]; omega
    rw [if_neg (by omega), if_neg h, width_eq k (by omega) n hn, Option.bind_some]
    rw [show 1 + (lw n - 1) = lw n by omega]
    rw [show wrap64 (247 + ((lw n : Nat) : Int)) = ((247 + lw n : Nat) : Int) from by unfold wrap64; omega, IntWalk.u64_in _ (by omega)]
    have := refbytes_eq k (247 + lw n) 1 (by omega) (by omega) (by omega)
    rw [show ((1 : Nat) : Int) = 1 from rfl] at this
    have e : be 1 (247 + lw n) = [UInt8.ofNat (247 + lw n)] := by simp [be, Nat.mod_eq_of_lt (show 247 + lw n < 256 by omega)]
    rw [this, Option.bind_some, Option.bind_some, refbytes_eq k n (lw n) hn (by omega) (by omega), Option.bind_some, mkB_size, mkB_size, be_length, be_length, if_pos (by omega), mkB_append, e]
    rfl
end
theorem fstE0 {e : Int} (h : e = 0) (l : List Int) : fstE (e :: l) = fstE l := by simp only [fstE]; rw [if_pos h]
theorem fstEN {e : Int} (h : ¬ e = 0) (l : List Int) : fstE (e :: l) = e := by simp only [fstE]; rw [if_neg h]
theorem range_ok {n lo hi : Int} (h1 : lo ≤ n) (h2 : n ≤ hi) : rangeE n lo hi = 0 := by unfold rangeE; rw [if_pos ((inI_iff _ _ _).2 ⟨h1, h2⟩)]
theorem range_no {n lo hi : Int} (h : n < lo ∨ hi < n) : rangeE n lo hi = 3 := by unfold rangeE; rw [if_neg (fun k => by have := (inI_iff _ _ _).1 k; omega)]
theorem res_eq (k : Nat) (a b c : Int) : sacristanref09_Check.f (k + 5) a b c = some (resE a b c) := by
  unfold sacristanref09_Check.f sacristanref09_amounts.f resE
  simp only [Option.bind_some, inI_iff]
  simp only [sacristanref09_Check.l0]
  have e0 : rd [a, b, c] 0 = a := rfl
  have e1 : rd [a, b, c] 1 = b := rfl
  have e2 : rd [a, b, c] 2 = c := rfl
  have f1 : wrap64 (0 + 1) = 1 := by unfold wrap64; omega
  have f2 : wrap64 (1 + 1) = 2 := by unfold wrap64; omega
  have f3 : wrap64 (2 + 1) = 3 := by unfold wrap64; omega
  simp only [f1, f2, f3, e0, e1, e2]
  simp
  grind
theorem ports_l0 (l : List Int) (hl : l.length ≤ 8) (d : Nat) : ∀ k i : Nat, i + d = l.length → 2 * d < k → sacristanref10_Check.l0 k l i = some (portsG (if i = 0 then 0 else l.getD (i - 1) 0) (l.drop i)) := by
  induction d with
  | zero =>
    intro k i hi hk
    obtain ⟨k, rfl⟩ : ∃ m, k = m + 1 := ⟨k - 1, by omega⟩
    simp only [sacristanref10_Check.l0]
    rw [if_neg (by omega), List.drop_eq_nil_of_le (by omega)]
    rfl
  | succ d ih =>
    intro k i hi hk
    obtain ⟨k, rfl⟩ : ∃ m, k = m + 2 := ⟨k - 2, by omega⟩
    have hil : i < l.length := by omega
    have q := ih k (i + 1) (by omega) (by omega)
    rw [if_neg (by omega), Nat.add_sub_cancel] at q
    have hg : l.getD i 0 = l[i] := by simp [hil]
    rw [hg] at q
    rw [List.drop_eq_getElem_cons hil]
    simp only [sacristanref10_Check.l0, portsG]
    rw [if_pos (by omega), if_pos (by omega), rd_at l i hil]
    by_cases h1 : l[i] < 1
    · rw [if_pos h1, if_pos (.inl h1)]
      simp only [sacristanref10_Check.j1]
      rw [if_pos trivial]
    · rw [if_neg h1]
      by_cases h2 : l[i] > 65535
      · rw [decide_eq_true h2, if_pos (.inr h2)]
        simp only [sacristanref10_Check.j1]
        rw [if_pos trivial]
      · rw [decide_eq_false h2, if_neg (fun h => h.elim h1 h2)]
        simp only [sacristanref10_Check.j1]
        rw [if_neg (by simp), rd_at l i hil]
        by_cases h3 : i = 0
        · subst h3
          rw [if_neg (by omega), if_pos rfl, if_neg (by omega), w1 (by omega)]
          exact q
        · have h4 : wrap64 ((i : Int) - 1) = ((i - 1 : Nat) : Int) := by unfold wrap64; omega
          rw [if_pos (by omega), if_pos (by omega), if_pos (by omega), h4, if_pos (by omega), if_pos (by omega), rd_at l (i - 1) (by omega), if_neg h3, w1 (by omega)]
          have hg2 : l.getD (i - 1) 0 = l[i - 1] := by simp [show i - 1 < l.length by omega]
          rw [hg2]
          split
          · rfl
          · exact q
theorem ports_eq (k : Nat) (hk : 20 ≤ k) (l : List Int) : sacristanref10_Check.f k l = some (portsE l) := by
  unfold sacristanref10_Check.f portsE
  by_cases h : l.length > 8
  · rw [if_pos (by omega), if_pos h]
  · rw [if_neg (by omega), if_neg h]
    have := ports_l0 l (by omega) l.length k 0 (by omega) (by omega)
    simpa using this
theorem pol_eq (b : Bool) (l w c m : Int) : sacristanref11_Check.f b l w c m = some (polE l w c m) := by
  unfold sacristanref11_Check.f polE
  simp only [inI_iff]
  grind
theorem tasks_l0 (a b c d : Int) (p : List Int) (m : List (S49)) (hm : m.length ≤ 4) (n : Nat) : ∀ k i : Nat, i + n = m.length → n < k → sacristanref13_Check.l0 k i a b c d p m = some (fstE (((m.map toTS).drop i).flatMap taskE)) := by
  induction n with
  | zero =>
    intro k i hi hk
    obtain ⟨k, rfl⟩ : ∃ m, k = m + 1 := ⟨k - 1, by omega⟩
    simp only [sacristanref13_Check.l0]
    rw [if_neg (by omega), List.drop_eq_nil_of_le (by rw [List.length_map]; omega)]
    rfl
  | succ n ih =>
    intro k i hi hk
    obtain ⟨k, rfl⟩ : ∃ m, k = m + 1 := ⟨k - 1, by omega⟩
    have hil : i < m.length := by omega
    have q := ih k (i + 1) (by omega) (by omega)
    simp only [sacristanref13_Check.l0]
    rw [if_pos (by omega), if_pos (by omega), rdT_at m i hil, pol_eq, Option.bind_some, List.drop_eq_getElem_cons (by rw [List.length_map]; exact hil), List.flatMap_cons, w1 (by omega), q]
    have e : (m.map toTS)[i]'(by rw [List.length_map]; exact hil) = toTS m[i] := by simp
    rw [e]
    generalize ((m.map toTS).drop (i + 1)).flatMap taskE = z
    show _ = some (fstE (polE (m[i]).f0.f1 (m[i]).f0.f2 (m[i]).f0.f3 (m[i]).f0.f4 :: rangeE (m[i]).f1 0 1000 :: z))
    by_cases h1 : polE (m[i]).f0.f1 (m[i]).f0.f2 (m[i]).f0.f3 (m[i]).f0.f4 = 0
    · rw [if_pos h1, fstE0 h1]
      by_cases h2 : (m[i]).f1 < 0
      · rw [if_pos h2, range_no (.inl h2), fstEN (by omega)]
      · rw [if_neg h2]
        by_cases h3 : (m[i]).f1 > 1000
        · rw [if_pos h3, range_no (.inr h3), fstEN (by omega)]
        · rw [if_neg h3, range_ok (by omega) (by omega), fstE0 rfl]
    · rw [if_neg h1, fstEN h1]
theorem check_eq (k : Nat) (a b c d : Int) (l : List Int) (m : List (S49)) : sacristanref13_Check.f (k + 30) a b c d l m = some (specE (spOf a b c d l m)) := by
  have e : specE (spOf a b c d l m) = fstE (rangeE a 0 2147483648 :: resE b c d :: portsE l :: countE m.length :: (((m.map toTS).take 4).flatMap taskE)) := by
    unfold specE askE spOf
    simp only [List.length_map]
    rfl
  rw [e]
  unfold sacristanref13_Check.f
  by_cases h1 : a < 0
  · rw [if_pos h1, range_no (.inl h1), fstEN (by omega)]
    simp only [sacristanref13_Check.j0]
    rw [if_pos trivial]
  · rw [if_neg h1]
    by_cases h2 : a > 2147483648
    · rw [decide_eq_true h2, range_no (.inr h2), fstEN (by omega)]
      simp only [sacristanref13_Check.j0]
      rw [if_pos trivial]
    · rw [decide_eq_false h2, range_ok (by omega) (by omega), fstE0 rfl]
      simp only [sacristanref13_Check.j0]
      rw [if_neg (by simp), res_eq, Option.bind_some]
      by_cases h3 : resE b c d = 0
      · rw [if_pos h3, fstE0 h3, ports_eq _ (by omega), Option.bind_some]
        by_cases h4 : portsE l = 0
        · rw [if_pos h4, fstE0 h4]
          unfold countE
          by_cases h5 : m.length = 0
          · rw [if_pos (by omega), if_pos h5, fstEN (by omega)]
          · rw [if_neg (by omega), if_neg h5]
            by_cases h6 : m.length > 4
            · rw [if_pos (by omega), if_pos h6, fstEN (by omega)]
            · rw [if_neg (by omega), if_neg h6, fstE0 rfl, List.take_of_length_le (by rw [List.length_map]; omega)]
              have := tasks_l0 a b c d l m (by omega) m.length (k + 29) 0 (by omega) (by omega)
              simpa using this
        · rw [if_neg h4, fstEN h4]
      · rw [if_neg h3, fstEN h3]
/-! ### Encode of the reference -/
theorem numbers_l0 (a b c d : Int) (l : List Int) (m : List (S49)) (hm : m.length ≤ 1000) (n : Nat) : ∀ (k i : Nat) (xs : List Int), i + n = m.length → n < k → xs.length ≤ 10000 + 6 * i →
    sacristanref13_numbers.l0 k xs i a b c d l m = some (xs ++ ((m.map toTS).drop i).flatMap numsT) := by
  induction n with
  | zero =>
    intro k i xs hi hk hx
    obtain ⟨k, rfl⟩ : ∃ q, k = q + 1 := ⟨k - 1, by omega⟩
    simp only [sacristanref13_numbers.l0]
    rw [if_neg (by omega), List.drop_eq_nil_of_le (by rw [List.length_map]; omega)]
    simp
  | succ n ih =>
    intro k i xs hi hk hx
    obtain ⟨k, rfl⟩ : ∃ q, k = q + 1 := ⟨k - 1, by omega⟩
    have hil : i < m.length := by omega
    have e : (m.map toTS)[i]'(by rw [List.length_map]; exact hil) = toTS m[i] := by simp
    rw [List.drop_eq_getElem_cons (by rw [List.length_map]; exact hil), List.flatMap_cons, e]
    simp only [sacristanref13_numbers.l0]
    rw [if_pos (by omega), if_pos (by omega), rdT_at m i hil, w1 (by omega)]
    by_cases hb : (m[i]).f0.f0 = true
    · have en : numsT (toTS m[i]) = [1, (m[i]).f0.f1, (m[i]).f0.f2, (m[i]).f0.f3, (m[i]).f0.f4, (m[i]).f1] := by simp [numsT, toTS, b2i, hb]
      rw [if_pos hb, Option.bind_some, if_pos (by simp; omega), ih k (i + 1) _ (by omega) (by omega) (by simp; omega), en, List.append_assoc]
    · have en : numsT (toTS m[i]) = [0, (m[i]).f0.f1, (m[i]).f0.f2, (m[i]).f0.f3, (m[i]).f0.f4, (m[i]).f1] := by simp [numsT, toTS, b2i, hb]
      rw [if_neg hb, Option.bind_some, if_pos (by simp; omega), ih k (i + 1) _ (by omega) (by omega) (by simp; omega), en, List.append_assoc]
theorem numbers_eq (k : Nat) (a b c d : Int) (l : List Int) (m : List (S49)) (hl : l.length ≤ 1000) (hm : m.length ≤ 1000) (hk : m.length < k) :
    sacristanref13_numbers.f k a b c d l m = some (numsS (spOf a b c d l m)) := by
  unfold sacristanref13_numbers.f
  simp only [Option.bind_some]
  rw [if_pos (by simp; omega), if_pos (by simp; omega)]
  have := numbers_l0 a b c d l m hm m.length k 0 ([a, b, c, d, (l.length : Int)] ++ l ++ [(m.length : Int)]) (by omega) hk (by simp; omega)
  refine this.trans ?_
  simp [numsS, spOf]
theorem encode_l0 (xs : List Int) (hx : ∀ x ∈ xs, 0 ≤ x ∧ x < 9223372036854775808) (hl : xs.length ≤ 1000) (n : Nat) : ∀ (k i : Nat) (acc : List UInt8), i + n = xs.length → n + 20 < k → acc.length ≤ 9 * i →
    sacristanref13_Encode.l0 k (Go.Proofs.YtldpmeaibkpojaaR.Ext.mkB acc) xs i = some (Go.Proofs.YtldpmeaibkpojaaR.Ext.mkB (acc ++ encNs (xs.drop i)), 0) := by
  induction n with
  | zero =>
    intro k i acc hi hk ha
    obtain ⟨k, rfl⟩ : ∃ q, k = q + 1 := ⟨k - 1, by omega⟩
    simp only [sacristanref13_Encode.l0]
    rw [if_neg (by omega), List.drop_eq_nil_of_le (by omega), encNs_nil, List.append_nil]
  | succ n ih =>
    intro k i acc hi hk ha
    obtain ⟨k, rfl⟩ : ∃ q, k = q + 1 := ⟨k - 1, by omega⟩
    have hil : i < xs.length := by omega
    have hb := hx xs[i] (List.getElem_mem _)
    obtain ⟨v, hv⟩ : ∃ v : Nat, xs[i] = (v : Int) := ⟨xs[i].toNat, by omega⟩
    rw [List.drop_eq_getElem_cons hil, encNs_cons]
    simp only [sacristanref13_Encode.l0]
    have hvl := Pk.varL_length v (by omega)
    have ee : encN xs[i] = Pk.varL v := by unfold encN; rw [hv, Int.toNat_natCast]
    rw [if_pos (by omega), if_pos (by omega), rd_at xs i hil, hv, IntWalk.u64_in _ (by omega), rvar_eq k (by omega) v (by omega), Option.bind_some]
    have e2 : (Go.Proofs.YtldpmeaibkpojaaR.Ext.mkB acc).size = acc.length := mkB_size _
    have e3 : (Go.Proofs.YtldpmeaibkpojaaR.Ext.mkB (Pk.varL v)).size = (Pk.varL v).length := mkB_size _
    have e4 : Go.Proofs.YtldpmeaibkpojaaR.Ext.mkB acc ++ Go.Proofs.YtldpmeaibkpojaaR.Ext.mkB (Pk.varL v) = Go.Proofs.YtldpmeaibkpojaaR.Ext.mkB (acc ++ Pk.varL v) := mkB_append _ _
    rw [e2, e3, if_pos (by omega), e4, w1 (by omega), ih k (i + 1) _ (by omega) (by omega) (by simp; omega)]
    rw [← hv, ee, List.append_assoc]
theorem nums_ok {s : SP} (h : okS s = true) (hp : s.ports.length ≤ 1000) : ∀ x ∈ numsS s, 0 ≤ x ∧ x < 9223372036854775808 := by
  obtain ⟨⟨h1, h2⟩, ⟨h3, h4⟩, ⟨h5, h6⟩, ⟨h7, h8⟩, ⟨h9, h10⟩, ⟨h11, h12⟩⟩ := okS_gS h
  intro x hx
  unfold numsS at hx
  simp only [List.mem_append, List.mem_cons, List.not_mem_nil, or_false, List.mem_flatMap] at hx
  rcases hx with (((rfl | rfl | rfl | rfl | rfl) | hx) | rfl) | ⟨t, ht, hx⟩
  · omega
  · omega
  · omega
  · omega
  · omega
  · have := h10 x hx; omega
  · omega
  · obtain ⟨⟨a1, a2⟩, ⟨a3, a4⟩, ⟨a5, a6⟩, ⟨a7, a8⟩, ⟨a9, a10⟩⟩ := h12 t ht
    unfold numsT at hx
    simp only [List.mem_cons, List.not_mem_nil, or_false] at hx
    rcases hx with rfl | rfl | rfl | rfl | rfl | rfl
    · unfold b2i; split <;> omega
    all_goals omega
theorem nums_len (s : SP) : (numsS s).length = 6 + s.ports.length + 6 * s.tasks.length := by
  unfold numsS
  have : (s.tasks.flatMap numsT).length = 6 * s.tasks.length := by
    generalize s.tasks = ts
    induction ts with
    | nil => rfl
    | cons t ts ih => rw [List.flatMap_cons, List.length_append, ih, List.length_cons]; simp [numsT]; omega
  simp [this]
  omega
/-- What Encode hands back. -/
theorem rencode_eq (k : Nat) (a b c d : Int) (l : List Int) (m : List (S49)) (hl : l.length ≤ 20) (hm : m.length ≤ 10) :
    sacristanref13_Encode.f (k + 200) a b c d l m = some (Go.Proofs.YtldpmeaibkpojaaR.Ext.mkB (Go.Proofs.YtldpmeaibkpojaaR.encR (spOf a b c d l m)), specE (spOf a b c d l m)) := by
  unfold sacristanref13_Encode.f
  rw [check_eq (k + 170), Option.bind_some]
  by_cases h : specE (spOf a b c d l m) = 0
  · have hok : okS (spOf a b c d l m) = true := by simp [okS, h]
    have hn := nums_len (spOf a b c d l m)
    have hln : (spOf a b c d l m).ports.length = l.length := rfl
    have hmn : (spOf a b c d l m).tasks.length = m.length := by simp [spOf]
    rw [if_pos h, numbers_eq (k + 200) a b c d l m (by omega) (by omega) (by omega), Option.bind_some]
    have := encode_l0 _ (nums_ok hok (by omega)) (by omega) (numsS (spOf a b c d l m)).length (k + 200) 0 [] (by omega) (by omega) (by simp)
    rw [show (0 : Int) = ((0 : Nat) : Int) from rfl, show (⟨#[]⟩ : ByteArray) = Go.Proofs.YtldpmeaibkpojaaR.Ext.mkB [] from rfl, this, h]
    simp [Go.Proofs.YtldpmeaibkpojaaR.encR, h, encS]
  · rw [if_neg h]
    have hok : ¬ okS (spOf a b c d l m) = true := by simp [okS, h]
    simp [Go.Proofs.YtldpmeaibkpojaaR.encR, h]
    rfl
theorem copy_eq (a b c d : Int) (l : List Int) (m : List (S49)) (hl : l.length ≤ 20) (hm : m.length ≤ 10) : spec_Copy.f a b c d l m = some (a, b, c, d, l, m) := by
  unfold spec_Copy.f slices_Clone_int_int.f api_TaskSpec_62.f
  rw [if_pos (by omega), Option.bind_some, if_pos (by omega), Option.bind_some]
theorem awake_eq : sacristanlaw13_awake.f = some true := rfl
end Go.Proofs.YtldpmeaibkpojaaR.PureM
end

section
/- What lies in the arguments, as the printed texts read it. -/
namespace Go.Proofs.YtldpmeaibkpojaaR
open Go.RowKit Go.Proofs.YtldpmeaibkpojaaR Go.Proofs.YtldpmeaibkpojaaR.Ext Go.Proofs.YtldpmeaibkpojaaR.M Go.Proofs.YtldpmeaibkpojaaRW.PrintWords Go.Proofs.YtldpmeaibkpojaaRW.PrintLast
set_option linter.unusedVariables false
set_option linter.unusedSimpArgs false

def toE (x : E49) : S49 := ⟨⟨x.f0, x.f1, x.f2, x.f3, x.f4⟩, x.f5⟩
theorem readsI {w : World} {A : Option Addr} {cap : Nat} {l : List Int} (h : SL24 w A cap l) : Kd.C (Kd.int .i64) w A l.length l ∧ l.length ≤ cap := by
  obtain ⟨h1, h2, h3⟩ := h
  have hm : maxLen ≤ 9223372036854775807 := by decide
  refine ⟨Kd.C_of_reads (d := (0 : Int)) ⟨rfl, by omega, fun hp => ?_⟩, h1⟩
  rcases h3 with rfl | ⟨b, off, rfl, hb, hc⟩
  · simp at hp
  refine ⟨_, rfl, fun j hj => ?_⟩
  have ha : (Addr.mk b off none).add j = ⟨b, off + j, none⟩ := by unfold Addr.add; split <;> simp_all
  rw [ha]
  exact (hc j hj).1
theorem readsT {w : World} {A : Option Addr} {cap : Nat} {l : List E49} (h : SL25 w A cap l) : Kd.C k49 w A (l.map toE).length (l.map toE) ∧ (l.map toE).length ≤ cap := by
  obtain ⟨h1, h2, h3⟩ := h
  have hm : maxLen ≤ 9223372036854775807 := by decide
  refine ⟨⟨rfl, by rw [List.length_map]; omega, fun hp => ?_⟩, by rw [List.length_map]; exact h1⟩
  rw [List.length_map] at hp
  rcases h3 with rfl | ⟨b, off, rfl, hb, hc⟩
  · simp at hp
  refine ⟨_, rfl, fun j p hj => ?_⟩
  obtain ⟨hl, rfl⟩ := List.getElem?_eq_some_iff.1 hj
  rw [List.length_map] at hl
  obtain ⟨c0, c1, _, c2, _, c3, _, c4, _, c5, _⟩ := hc j hl
  have hr : rdE49 l j = l[j] := by simp [rdE49, hl]
  rw [hr] at c0 c1 c2 c3 c4 c5
  have he : (l.map toE)[j] = toE l[j] := by simp
  refine ⟨[.bool (l[j]).f0, .int .i64 (l[j]).f1, .int .i64 (l[j]).f2, .int .i64 (l[j]).f3, .int .i64 (l[j]).f4, .int .i64 (l[j]).f5], rfl, ?_, fun i u hu => ?_⟩
  · rw [he]; exact k49_mk w (toE l[j])
  · have ha : ∀ n, (Addr.mk b off none).add n = ⟨b, off + n, none⟩ := fun n => by unfold Addr.add; split <;> simp_all
    show w.cell? ((Addr.mk b off none).add (j * 6 + i)) = _
    rw [ha, ← Nat.add_assoc]
    match i, hu with
    | 0, hu => injection hu with hu; subst hu; exact c0
    | 1, hu => injection hu with hu; subst hu; exact c1
    | 2, hu => injection hu with hu; subst hu; exact c2
    | 3, hu => injection hu with hu; subst hu; exact c3
    | 4, hu => injection hu with hu; subst hu; exact c4
    | 5, hu => injection hu with hu; subst hu; exact c5
    | i + 6, hu => simp at hu
end Go.Proofs.YtldpmeaibkpojaaR
end

section
/- The walk of SpecMatches. -/
namespace Go.Proofs.YtldpmeaibkpojaaR
open Go.RowKit Go.Proofs.YtldpmeaibkpojaaR Go.Proofs.YtldpmeaibkpojaaR.Ext Go.Proofs.YtldpmeaibkpojaaR.M Go.Proofs.YtldpmeaibkpojaaR.PureM Go.Proofs.YtldpmeaibkpojaaR.Sp Go.Proofs.YtldpmeaibkpojaaRW.PrintWords Go.Proofs.YtldpmeaibkpojaaRW.PrintLast
set_option linter.unusedVariables false
set_option linter.unusedSimpArgs false
abbrev TL := List (S49)
abbrev tSp : Nat := 27
theorem few_a {w0 w : World} {L : List HP} (a b c d : Int) {A B : Option Addr} {n m p q : Nat} (ps : List Int) (ts : TL) (c1 : Kd.C (Kd.int .i64) w0 A ps.length ps) (e1 : n = ps.length) (l1 : n ≤ p) (c2 : Kd.C k49 w0 B ts.length ts) (e2 : m = ts.length) (l2 : m ≤ q) (h : St w0 w L) :
    Calls Try.prog 17 #[.agg #[.int .i64 a, .int .i64 b, .int .i64 c, .int .i64 d, .slice A n p, .slice B m q]] w fun e w' => ∃ A' B' c' d' n' m', e = .returned (.agg #[.int .i64 a, .int .i64 b, .int .i64 c, .int .i64 d, .slice A' n' c', .slice B' m' d']) ∧ St w0 w' (RI (.slice A' n' c') (ps.take 20) :: RT (.slice B' m' d') (ts.take 10) :: L) := by
  subst e1; subst e2
  refine (sacristanlaw13_Few.calls a b c d A p ps B q ts _ _ _ _ _ _ w (Kd.C_below c1 h.bel) l1 (Kd.C_below c2 h.bel) l2 (few a b c d ps ts)).mono ?_
  rintro e w' ⟨v4, v5, rfl, h4, h5, hb⟩
  obtain ⟨A, n, c, rfl⟩ := R_slice3 h4
  obtain ⟨B, m, d, rfl⟩ := R_slice3 h5
  exact ⟨A, B, c, d, n, m, rfl, h.rows2 (flat_int _) kX_flat (by decide) hb h4 h5⟩
theorem few_s {w0 w : World} {L : List HP} (a b c d : Int) {A B : Option Addr} {n m p q : Nat} (ps : List Int) (ts : TL) (hp : ps.length ≤ 20) (ht : ts.length ≤ 10) (h : St w0 w (RI (.slice A n p) ps :: RT (.slice B m q) ts :: L)) :
    Calls Try.prog 17 #[.agg #[.int .i64 a, .int .i64 b, .int .i64 c, .int .i64 d, .slice A n p, .slice B m q]] w fun e w' => ∃ A' B' c' d' n' m', e = .returned (.agg #[.int .i64 a, .int .i64 b, .int .i64 c, .int .i64 d, .slice A' n' c', .slice B' m' d']) ∧ St w0 w' (RI (.slice A' n' c') ps :: RT (.slice B' m' d') ts :: RI (.slice A n p) ps :: RT (.slice B m q) ts :: L) := by
  obtain ⟨c1, e1, l1⟩ := h.rowKC
  obtain ⟨c2, e2, l2⟩ := (h.pick 1).rowKC
  subst e1; subst e2
  have hf := few a b c d ps ts
  rw [List.take_of_length_le hp, List.take_of_length_le ht] at hf
  refine (sacristanlaw13_Few.calls a b c d A p ps B q ts _ _ _ _ _ _ w c1 l1 c2 l2 hf).mono ?_
  rintro e w' ⟨v4, v5, rfl, h4, h5, hb⟩
  obtain ⟨A', n, c, rfl⟩ := R_slice3 h4
  obtain ⟨B', m, d, rfl⟩ := R_slice3 h5
  exact ⟨A', B', c, d, n, m, rfl, h.rows2 (flat_int _) kX_flat (by decide) hb h4 h5⟩
theorem copy_s {w0 w : World} {L : List HP} (a b c d : Int) {A B : Option Addr} {n m p q : Nat} (ps : List Int) (ts : TL) (hp : ps.length ≤ 20) (ht : ts.length ≤ 10) (h : St w0 w (RI (.slice A n p) ps :: RT (.slice B m q) ts :: L)) :
    Calls Try.prog 22 #[.agg #[.int .i64 a, .int .i64 b, .int .i64 c, .int .i64 d, .slice A n p, .slice B m q]] w fun e w' => ∃ A' B' c' d' n' m', e = .returned (.agg #[.int .i64 a, .int .i64 b, .int .i64 c, .int .i64 d, .slice A' n' c', .slice B' m' d']) ∧ St w0 w' (RI (.slice A' n' c') ps :: RT (.slice B' m' d') ts :: RI (.slice A n p) ps :: RT (.slice B m q) ts :: L) := by
  obtain ⟨c1, e1, l1⟩ := h.rowKC
  obtain ⟨c2, e2, l2⟩ := (h.pick 1).rowKC
  subst e1; subst e2
  refine (spec_Copy.calls a b c d A p ps B q ts _ _ _ _ _ _ w c1 l1 c2 l2 (copy_eq a b c d ps ts hp ht)).mono ?_
  rintro e w' ⟨v4, v5, rfl, h4, h5, hb⟩
  obtain ⟨A', n, c, rfl⟩ := R_slice3 h4
  obtain ⟨B', m, d, rfl⟩ := R_slice3 h5
  exact ⟨A', B', c, d, n, m, rfl, h.rows2 (flat_int _) kX_flat (by decide) hb h4 h5⟩
theorem renc_s {w0 w : World} {L : List HP} (a b c d : Int) {A B : Option Addr} {n m p q : Nat} (ps : List Int) (ts : TL) (hp : ps.length ≤ 20) (ht : ts.length ≤ 10) (h : St w0 w (RI (.slice A n p) ps :: RT (.slice B m q) ts :: L)) :
    Calls Try.prog 21 #[.agg #[.int .i64 a, .int .i64 b, .int .i64 c, .int .i64 d, .slice A n p, .slice B m q]] w fun e w' => e = .returned (.tuple #[.string (Go.Proofs.YtldpmeaibkpojaaR.Ext.mkB (encR (spOf a b c d ps ts))), .int .i64 (Sp.specE (spOf a b c d ps ts))]) ∧ St w0 w' (RI (.slice A n p) ps :: RT (.slice B m q) ts :: L) := by
  obtain ⟨c1, e1, l1⟩ := h.rowKC
  obtain ⟨c2, e2, l2⟩ := (h.pick 1).rowKC
  subst e1; subst e2
  refine (sacristanref13_Encode.calls 200 a b c d A p ps B q ts _ _ w c1 l1 c2 l2 (rencode_eq 0 a b c d ps ts hp ht)).mono ?_
  rintro e w' ⟨rfl, hb⟩
  exact ⟨rfl, h.more hb⟩
theorem rchk_s {w0 w : World} {L : List HP} (a b c d : Int) {A B : Option Addr} {n m p q : Nat} (ps : List Int) (ts : TL) (h : St w0 w (RI (.slice A n p) ps :: RT (.slice B m q) ts :: L)) (r : Int) (hr : Sp.specE (spOf a b c d ps ts) = r) :
    Calls Try.prog 23 #[.agg #[.int .i64 a, .int .i64 b, .int .i64 c, .int .i64 d, .slice A n p, .slice B m q]] w fun e w' => e = .returned (.int .i64 r) ∧ St w0 w' (RI (.slice A n p) ps :: RT (.slice B m q) ts :: L) := by
  obtain ⟨c1, e1, l1⟩ := h.rowKC
  obtain ⟨c2, e2, l2⟩ := (h.pick 1).rowKC
  subst e1; subst e2; subst hr
  refine (sacristanref13_Check.calls 30 a b c d A p ps B q ts _ w c1 l1 c2 l2 (check_eq 0 a b c d ps ts)).mono ?_
  rintro e w' ⟨rfl, hb⟩
  exact ⟨rfl, h.more hb⟩
/-- spec.Equal of what lies in four rows. -/
theorem sequ_s {w0 w : World} {L : List HP} (a b c d a' b' c' d' : Int) {A B A' B' : Option Addr} {n m p q n' m' p' q' : Nat} (ps ps' : List Int) (ts ts' : TL) (hp : ps.length ≤ 20) (ht : ts.length ≤ 10) (r : Bool) (hr : decide (spOf a b c d ps ts = spOf a' b' c' d' ps' ts') = r)
    (h : St w0 w (RI (.slice A n p) ps :: RT (.slice B m q) ts :: RI (.slice A' n' p') ps' :: RT (.slice B' m' q') ts' :: L)) :
    Calls Try.prog 20 #[.agg #[.int .i64 a, .int .i64 b, .int .i64 c, .int .i64 d, .slice A n p, .slice B m q], .agg #[.int .i64 a', .int .i64 b', .int .i64 c', .int .i64 d', .slice A' n' p', .slice B' m' q']] w fun e w' => e = .returned (.bool r) ∧ St w0 w' (RI (.slice A n p) ps :: RT (.slice B m q) ts :: RI (.slice A' n' p') ps' :: RT (.slice B' m' q') ts' :: L) := by
  obtain ⟨c1, e1, l1⟩ := h.rowKC
  obtain ⟨c2, e2, l2⟩ := (h.pick 1).rowKC
  obtain ⟨c3, e3, l3⟩ := (h.pick 2).rowKC
  obtain ⟨c4, e4, l4⟩ := (h.pick 3).rowKC
  subst e1; subst e2; subst e3; subst e4; subst hr
  refine (spec_Equal.calls 100 a b c d A p ps B q ts a' b' c' d' A' p' ps' B' q' ts' _ w c1 l1 c2 l2 c3 l3 c4 l4 (sEqual 100 a b c d a' b' c' d' ps ps' ts ts' (by omega) (by omega) (by omega) (by omega))).mono ?_
  rintro e w' ⟨rfl, hb⟩
  exact ⟨rfl, h.more hb⟩
theorem kequ_s {w0 w : World} {L : List HP} (a b c d a' b' c' d' : Int) {A B A' B' : Option Addr} {n m p q n' m' p' q' : Nat} (ps ps' : List Int) (ts ts' : TL) (hp : ps.length ≤ 20) (ht : ts.length ≤ 10) (r : Bool) (hr : decide (spOf a b c d ps ts = spOf a' b' c' d' ps' ts') = r)
    (h : St w0 w (RI (.slice A n p) ps :: RT (.slice B m q) ts :: RI (.slice A' n' p') ps' :: RT (.slice B' m' q') ts' :: L)) :
    Calls Try.prog 11 #[.agg #[.int .i64 a, .int .i64 b, .int .i64 c, .int .i64 d, .slice A n p, .slice B m q], .agg #[.int .i64 a', .int .i64 b', .int .i64 c', .int .i64 d', .slice A' n' p', .slice B' m' q']] w fun e w' => e = .returned (.bool r) ∧ St w0 w' (RI (.slice A n p) ps :: RT (.slice B m q) ts :: RI (.slice A' n' p') ps' :: RT (.slice B' m' q') ts' :: L) := by
  subst hr
  exact eqs_s 100 a b c d a' b' c' d' ps ps' ts ts' _ (eqSpec 100 a b c d a' b' c' d' ps ps' ts ts' (by omega) (by omega) (by omega) (by omega)) h
/-- The six cells of a specification. -/
def C6 (b : Nat) (x0 x1 x2 x3 x4 x5 : Value) (w : World) : Prop := w.cell? ⟨b, 0, none⟩ = some x0 ∧ w.cell? ⟨b, 1, none⟩ = some x1 ∧ w.cell? ⟨b, 2, none⟩ = some x2 ∧ w.cell? ⟨b, 3, none⟩ = some x3 ∧ w.cell? ⟨b, 4, none⟩ = some x4 ∧ w.cell? ⟨b, 5, none⟩ = some x5
set_option maxHeartbeats 16000000 in
set_option maxRecDepth 100000 in
theorem match_c (a b c d a' b' c' d' : Int) (S4 S5 O4 O5 : Option Addr) (n4 n5 n4' n5' p4 p5 p4' p5' : Nat) (l l' : List Int) (m m' : TL) (w : World)
    (h1 : Kd.C (Kd.int .i64) w S4 l.length l) (e1 : n4 = l.length) (g1 : n4 ≤ p4) (h2 : Kd.C k49 w S5 m.length m) (e2 : n5 = m.length) (g2 : n5 ≤ p5)
    (h3 : Kd.C (Kd.int .i64) w O4 l'.length l') (e3 : n4' = l'.length) (g3 : n4' ≤ p4') (h4 : Kd.C k49 w O5 m'.length m') (e4 : n5' = m'.length) (g4 : n5' ≤ p5') :
    Calls Try.prog 8 #[.agg #[.int .i64 a, .int .i64 b, .int .i64 c, .int .i64 d, .slice S4 n4 p4, .slice S5 n5 p5], .agg #[.int .i64 a', .int .i64 b', .int .i64 c', .int .i64 d', .slice O4 n4' p4', .slice O5 n5' p5']] w fun e w' => e = .returned (.bool true) ∧ Below w.heap.size w w' := by
  have HA := Lib.hid (And.intro (And.intro h1 (And.intro e1 g1)) (And.intro (And.intro h2 (And.intro e2 g2)) (And.intro (And.intro h3 (And.intro e3 g3)) (And.intro h4 (And.intro e4 g4)))))
  clear h1 e1 g1 h2 e2 g2 h3 e3 g3 h4 e4 g4
  have hps : (l.take 20).length ≤ 20 := by rw [List.length_take]; omega
  have hts : (m.take 10).length ≤ 10 := by rw [List.length_take]; omega
  have hqs : (l'.take 20).length ≤ 20 := by rw [List.length_take]; omega
  have hus : (m'.take 10).length ≤ 10 := by rw [List.length_take]; omega
  generalize hgp : l.take 20 = ps at *
  generalize hgt : m.take 10 = ts at *
  generalize hgq : l'.take 20 = qs at *
  generalize hgu : m'.take 10 = us at *
  have HG := Lib.hid (And.intro hgp (And.intro hgt (And.intro hgq hgu)))
  have HL := Lib.hid (And.intro hps (And.intro hts (And.intro hqs hus)))
  clear hgp hgt hgq hgu hps hts hqs hus
  have hEA : ∀ (wz : World) (L : List HP), St w wz L → Calls Try.prog 17 #[.agg #[.int .i64 a, .int .i64 b, .int .i64 c, .int .i64 d, .slice S4 n4 p4, .slice S5 n5 p5]] wz fun e w' => ∃ A' B' c' d' n' m', e = .returned (.agg #[.int .i64 a, .int .i64 b, .int .i64 c, .int .i64 d, .slice A' n' c', .slice B' m' d']) ∧ St w w' (RI (.slice A' n' c') ps :: RT (.slice B' m' d') ts :: L) := by
    intro wz L h
    have q := few_a a b c d l m HA.out.1.1 HA.out.1.2.1 HA.out.1.2.2 HA.out.2.1.1 HA.out.2.1.2.1 HA.out.2.1.2.2 h
    rw [HG.out.1, HG.out.2.1] at q
    exact q
  have hEB : ∀ (wz : World) (L : List HP), St w wz L → Calls Try.prog 17 #[.agg #[.int .i64 a', .int .i64 b', .int .i64 c', .int .i64 d', .slice O4 n4' p4', .slice O5 n5' p5']] wz fun e w' => ∃ A' B' c'' d'' n' m', e = .returned (.agg #[.int .i64 a', .int .i64 b', .int .i64 c', .int .i64 d', .slice A' n' c'', .slice B' m' d'']) ∧ St w w' (RI (.slice A' n' c'') qs :: RT (.slice B' m' d'') us :: L) := by
    intro wz L h
    have q := few_a a' b' c' d' l' m' HA.out.2.2.1.1 HA.out.2.2.1.2.1 HA.out.2.2.1.2.2 HA.out.2.2.2.1 HA.out.2.2.2.2.1 HA.out.2.2.2.2.2 h
    rw [HG.out.2.2.1, HG.out.2.2.2] at q
    exact q
  have HEA := Lib.hid hEA
  have HEB := Lib.hid hEB
  clear hEA hEB HA HG
  have s0 := St.start w
  go_enter Try.func8, Try.ntmps8
  go_wp2_with fail
  have s1 : St w ((w.alloc (Obj.cells #[.int .i64 a, .int .i64 b, .int .i64 c, .int .i64 d, .slice S4 n4 p4, .slice S5 n5 p5] tSp)).alloc (Obj.cells #[.int .i64 a', .int .i64 b', .int .i64 c', .int .i64 d', .slice O4 n4' p4', .slice O5 n5' p5'] tSp)) [blk (w.heap.size + 1) #[.int .i64 a', .int .i64 b', .int .i64 c', .int .i64 d', .slice O4 n4' p4', .slice O5 n5' p5'] tSp, blk w.heap.size #[.int .i64 a, .int .i64 b, .int .i64 c, .int .i64 d, .slice S4 n4 p4, .slice S5 n5 p5] tSp] := by
    simpa using (s0.alloc #[.int .i64 a, .int .i64 b, .int .i64 c, .int .i64 d, .slice S4 n4 p4, .slice S5 n5 p5] tSp).alloc #[.int .i64 a', .int .i64 b', .int .i64 c', .int .i64 d', .slice O4 n4' p4', .slice O5 n5' p5'] tSp
  clear s0
  generalize ((w.alloc (Obj.cells #[.int .i64 a, .int .i64 b, .int .i64 c, .int .i64 d, .slice S4 n4 p4, .slice S5 n5 p5] tSp)).alloc (Obj.cells #[.int .i64 a', .int .i64 b', .int .i64 c', .int .i64 d', .slice O4 n4' p4', .slice O5 n5' p5'] tSp)) = w1 at *
  generalize hB3 : w.heap.size + 1 = b3 at *
  generalize hB2 : w.heap.size = b2 at *
  have HB2 := Lib.hid hB2
  clear hB3 hB2

  refine start_ (n := 6) (S := fun w' => w'.cell? ⟨b2, 0, none⟩ = some (.int .i64 a) ∧ w'.cell? ⟨b2, 1, none⟩ = some (.int .i64 b) ∧ w'.cell? ⟨b2, 2, none⟩ = some (.int .i64 c) ∧ w'.cell? ⟨b2, 3, none⟩ = some (.int .i64 d) ∧ w'.cell? ⟨b2, 4, none⟩ = some (.slice S4 n4 p4) ∧ w'.cell? ⟨b2, 5, none⟩ = some (.slice S5 n5 p5) ∧ w'.cell? ⟨b3, 0, none⟩ = some (.int .i64 a') ∧ w'.cell? ⟨b3, 1, none⟩ = some (.int .i64 b') ∧ w'.cell? ⟨b3, 2, none⟩ = some (.int .i64 c') ∧ w'.cell? ⟨b3, 3, none⟩ = some (.int .i64 d') ∧ w'.cell? ⟨b3, 4, none⟩ = some (.slice O4 n4' p4') ∧ w'.cell? ⟨b3, 5, none⟩ = some (.slice O5 n5' p5')) (ds := [4, 5]) #[false, false, false, false, false, false] (by kernel_rfl) rfl rfl ⟨(s1.pick 1).cells 0, (s1.pick 1).cells 1, (s1.pick 1).cells 2, (s1.pick 1).cells 3, (s1.pick 1).cells 4, (s1.pick 1).cells 5, s1.cells 0, s1.cells 1, s1.cells 2, s1.cells 3, s1.cells 4, s1.cells 5⟩ (fun hHeld => ?_)
  have s1d := s1.drew
  clear s1
  generalize w1.drew = w1d at *
  refine take_ (i := 0) (N := some 13) (v := ?_) (a' := ?_) #[true, false, false, false, false, false] rfl rfl (by kernel_rfl) (fun _ _ _ h => h) (Or.inl ⟨by rfl, ?_⟩) hHeld ?_ ?_
  rotate_left
  · rintro w' ⟨s0, s1, s2, s3, s4, s5, s6, s7, s8, s9, s10, s11⟩
    go_simp
    with_reducible rfl
  rotate_left
  · simp only [Act.put, List.setIfInBounds_toArray, List.set_cons_zero, List.set_cons_succ, i64_w, i32_w]
    rfl
  refine take_ (i := 2) (N := some 15) (v := ?_) (a' := ?_) #[true, false, true, false, false, false] rfl rfl (by kernel_rfl) (fun _ _ _ h => h) (Or.inl ⟨by rfl, ?_⟩) hHeld ?_ ?_
  rotate_left
  · rintro w' ⟨s0, s1, s2, s3, s4, s5, s6, s7, s8, s9, s10, s11⟩
    go_simp
    with_reducible rfl
  rotate_left
  · simp only [Act.put, List.setIfInBounds_toArray, List.set_cons_zero, List.set_cons_succ, i64_w, i32_w]
    rfl
  refine one_ (i := 1) (N := some 14) #[true, true, true, false, false, false] rfl rfl (by kernel_rfl) (by decide) (fun K hK => ?_)
  refine goes_ Try.func17 (by kernel_rfl) rfl #[.agg #[(.int .i64 a), (.int .i64 b), (.int .i64 c), (.int .i64 d), (.slice S4 n4 p4), (.slice S5 n5 p5)]] (by rfl) rfl rfl (by (try simp only [List.map_toArray, List.map_cons, List.map_nil]); first | done | rfl) ?_
  with_reducible refine (HEA.out _ _ s1d).mono ?_
  rintro e w2 ⟨S4', S5', Sc4', Sc5', Sn4', Sn5', rfl, s2⟩
  refine ⟨_, rfl, ?_⟩
  refine hK.out _ _ ⟨(s2.pick 3).cells 0, (s2.pick 3).cells 1, (s2.pick 3).cells 2, (s2.pick 3).cells 3, (s2.pick 3).cells 4, (s2.pick 3).cells 5, (s2.pick 2).cells 0, (s2.pick 2).cells 1, (s2.pick 2).cells 2, (s2.pick 2).cells 3, (s2.pick 2).cells 4, (s2.pick 2).cells 5⟩ (fun hHeld => ?_)
  clear hK K s1d
  refine norm_ (a' := ?_) ?_ ?_
  rotate_left
  · show Act.put _ (some 14) _ = _
    simp only [Act.put, List.setIfInBounds_toArray, List.set_cons_zero, List.set_cons_succ, i64_w, i32_w]
    rfl
  refine one_ (i := 3) (N := some 16) #[true, true, true, true, false, false] rfl rfl (by kernel_rfl) (by decide) (fun K hK => ?_)
  refine goes_ Try.func17 (by kernel_rfl) rfl #[.agg #[(.int .i64 a'), (.int .i64 b'), (.int .i64 c'), (.int .i64 d'), (.slice O4 n4' p4'), (.slice O5 n5' p5')]] (by rfl) rfl rfl (by (try simp only [List.map_toArray, List.map_cons, List.map_nil]); first | done | rfl) ?_
  with_reducible refine (HEB.out _ _ s2).mono ?_
  rintro e w3 ⟨O4', O5', Oc4', Oc5', On4', On5', rfl, s3⟩
  refine ⟨_, rfl, ?_⟩
  refine hK.out _ _ ⟨(s3.pick 5).cells 0, (s3.pick 5).cells 1, (s3.pick 5).cells 2, (s3.pick 5).cells 3, (s3.pick 5).cells 4, (s3.pick 5).cells 5, (s3.pick 4).cells 0, (s3.pick 4).cells 1, (s3.pick 4).cells 2, (s3.pick 4).cells 3, (s3.pick 4).cells 4, (s3.pick 4).cells 5⟩ (fun hHeld => ?_)
  clear hK K s2
  refine norm_ (a' := ?_) ?_ ?_
  rotate_left
  · show Act.put _ (some 16) _ = _
    simp only [Act.put, List.setIfInBounds_toArray, List.set_cons_zero, List.set_cons_succ, i64_w, i32_w]
    rfl
  clear hHeld
  have s4 := s3.pick 5
  clear s3
  have hca := s4.cells
  have hfa := s4.free
  refine last_ (i := 4) (N := none) #[true, true, true, true, true, false] rfl rfl (by kernel_rfl) (by decide) (fun K hK => ?_)
  refine skip_ (w1 := ?_) (by rfl) rfl ?_ ?_
  rotate_left
  · go_simp
    rfl
  refine hK.out _ _ ?_
  clear hK K hca hfa
  have s5 := (s4.set6 (.int .i64 a) (.int .i64 b) (.int .i64 c) (.int .i64 d) (.slice S4' Sn4' Sc4') (.slice S5' Sn5' Sc5')).pick 5
  clear s4
  generalize ((((((w3.setCell ⟨b2, 0, none⟩ (.int .i64 a)).setCell ⟨b2, 1, none⟩ (.int .i64 b)).setCell ⟨b2, 2, none⟩ (.int .i64 c)).setCell ⟨b2, 3, none⟩ (.int .i64 d)).setCell ⟨b2, 4, none⟩ (.slice S4' Sn4' Sc4')).setCell ⟨b2, 5, none⟩ (.slice S5' Sn5' Sc5')) = w4 at *
  have hca := s5.cells
  have hfa := s5.free
  refine last_ (i := 5) (N := none) #[true, true, true, true, true, true] rfl rfl (by kernel_rfl) (by decide) (fun K hK => ?_)
  refine skip_ (w1 := ?_) (by rfl) rfl ?_ ?_
  rotate_left
  · go_simp
    rfl
  refine hK.out _ _ ?_
  clear hK K hca hfa
  have s6q := s5.set6 (.int .i64 a') (.int .i64 b') (.int .i64 c') (.int .i64 d') (.slice O4' On4' Oc4') (.slice O5' On5' Oc5')
  clear s5
  generalize ((((((w4.setCell ⟨b3, 0, none⟩ (.int .i64 a')).setCell ⟨b3, 1, none⟩ (.int .i64 b')).setCell ⟨b3, 2, none⟩ (.int .i64 c')).setCell ⟨b3, 3, none⟩ (.int .i64 d')).setCell ⟨b3, 4, none⟩ (.slice O4' On4' Oc4')).setCell ⟨b3, 5, none⟩ (.slice O5' On5' Oc5')) = w5 at *
  refine done_ (by kernel_rfl) ?_
  have q8 : St w w5 [RI (.slice S4' Sn4' Sc4') ps, RT (.slice S5' Sn5' Sc5') ts, Go.Proofs.YtldpmeaibkpojaaR.blk b3 #[(.int .i64 a'), (.int .i64 b'), (.int .i64 c'), (.int .i64 d'), (.slice O4' On4' Oc4'), (.slice O5' On5' Oc5')] tSp, Go.Proofs.YtldpmeaibkpojaaR.blk b2 #[(.int .i64 a), (.int .i64 b), (.int .i64 c), (.int .i64 d), (.slice S4' Sn4' Sc4'), (.slice S5' Sn5' Sc5')] tSp, RI (.slice O4' On4' Oc4') qs, RT (.slice O5' On5' Oc5') us] := ((s6q).pick 5).pick 5
  clear s6q
  have hcb := (q8.pick 3).cells
  have hfb := (q8.pick 3).free
  have Q := Lib.hid q8
  clear q8
  go_wp2_with fail
  refine (few_s a b c d ps ts HL.out.1 HL.out.2.1 Q.out).mono ?_
  rintro e w6 ⟨W4', W5', Wc4', Wc5', Wn4', Wn5', rfl, r1⟩
  clear hcb hfb Q
  have r2 := r1.alloc #[(.int .i64 a), (.int .i64 b), (.int .i64 c), (.int .i64 d), (.slice W4' Wn4' Wc4'), (.slice W5' Wn5' Wc5')] tSp
  clear r1
  go_wp2_with fail
  generalize (w6.alloc (Obj.cells #[(.int .i64 a), (.int .i64 b), (.int .i64 c), (.int .i64 d), (.slice W4' Wn4' Wc4'), (.slice W5' Wn5' Wc5')] tSp)) = w7 at *
  generalize w6.heap.size = b5 at *
  have q9 : St w w7 [RI (.slice W4' Wn4' Wc4') ps, RT (.slice W5' Wn5' Wc5') ts, Go.Proofs.YtldpmeaibkpojaaR.blk b5 #[(.int .i64 a), (.int .i64 b), (.int .i64 c), (.int .i64 d), (.slice W4' Wn4' Wc4'), (.slice W5' Wn5' Wc5')] tSp, RI (.slice S4' Sn4' Sc4') ps, RT (.slice S5' Sn5' Sc5') ts, Go.Proofs.YtldpmeaibkpojaaR.blk b3 #[(.int .i64 a'), (.int .i64 b'), (.int .i64 c'), (.int .i64 d'), (.slice O4' On4' Oc4'), (.slice O5' On5' Oc5')] tSp, Go.Proofs.YtldpmeaibkpojaaR.blk b2 #[(.int .i64 a), (.int .i64 b), (.int .i64 c), (.int .i64 d), (.slice S4' Sn4' Sc4'), (.slice S5' Sn5' Sc5')] tSp, RI (.slice O4' On4' Oc4') qs, RT (.slice O5' On5' Oc5') us] := ((r2).pick 2).pick 2
  clear r2
  refine (enc_s a b c d ps ts q9).mono ?_
  rintro e w8 ⟨rfl, r3⟩
  clear q9
  have q10 : St w w8 [RI (.slice S4' Sn4' Sc4') ps, RT (.slice S5' Sn5' Sc5') ts, RI (.slice W4' Wn4' Wc4') ps, RT (.slice W5' Wn5' Wc5') ts, Go.Proofs.YtldpmeaibkpojaaR.blk b5 #[(.int .i64 a), (.int .i64 b), (.int .i64 c), (.int .i64 d), (.slice W4' Wn4' Wc4'), (.slice W5' Wn5' Wc5')] tSp, Go.Proofs.YtldpmeaibkpojaaR.blk b3 #[(.int .i64 a'), (.int .i64 b'), (.int .i64 c'), (.int .i64 d'), (.slice O4' On4' Oc4'), (.slice O5' On5' Oc5')] tSp, Go.Proofs.YtldpmeaibkpojaaR.blk b2 #[(.int .i64 a), (.int .i64 b), (.int .i64 c), (.int .i64 d), (.slice S4' Sn4' Sc4'), (.slice S5' Sn5' Sc5')] tSp, RI (.slice O4' On4' Oc4') qs, RT (.slice O5' On5' Oc5') us] := ((r3).pick 4).pick 4
  clear r3
  have hcb := (q10.pick 6).cells
  have Q := Lib.hid q10
  clear q10
  go_wp2_with fail
  refine (renc_s a b c d ps ts HL.out.1 HL.out.2.1 Q.out).mono ?_
  rintro e w9 ⟨rfl, r4⟩
  clear Q hcb
  generalize hE : Sp.specE (spOf a b c d ps ts) = er at *
  have HE := Lib.hid hE
  clear hE
  generalize Go.Proofs.YtldpmeaibkpojaaR.Ext.mkB (encR (spOf a b c d ps ts)) = bs at *
  have q11 : St w w9 [RI (.slice W4' Wn4' Wc4') ps, RT (.slice W5' Wn5' Wc5') ts, RI (.slice S4' Sn4' Sc4') ps, RT (.slice S5' Sn5' Sc5') ts, Go.Proofs.YtldpmeaibkpojaaR.blk b5 #[(.int .i64 a), (.int .i64 b), (.int .i64 c), (.int .i64 d), (.slice W4' Wn4' Wc4'), (.slice W5' Wn5' Wc5')] tSp, Go.Proofs.YtldpmeaibkpojaaR.blk b3 #[(.int .i64 a'), (.int .i64 b'), (.int .i64 c'), (.int .i64 d'), (.slice O4' On4' Oc4'), (.slice O5' On5' Oc5')] tSp, Go.Proofs.YtldpmeaibkpojaaR.blk b2 #[(.int .i64 a), (.int .i64 b), (.int .i64 c), (.int .i64 d), (.slice S4' Sn4' Sc4'), (.slice S5' Sn5' Sc5')] tSp, RI (.slice O4' On4' Oc4') qs, RT (.slice O5' On5' Oc5') us] := ((r4).pick 3).pick 3
  clear r4
  have hcb := (q11.pick 4).cells
  have Q := Lib.hid q11
  clear q11
  go_wp2_with fail
  refine (copy_s a b c d ps ts HL.out.1 HL.out.2.1 Q.out).mono ?_
  rintro e w10 ⟨C4', C5', Cc4', Cc5', Cn4', Cn5', rfl, r5⟩
  clear Q hcb
  have r6 := r5.alloc #[(.int .i64 a), (.int .i64 b), (.int .i64 c), (.int .i64 d), (.slice C4' Cn4' Cc4'), (.slice C5' Cn5' Cc5')] tSp
  clear r5
  go_wp2_with fail
  generalize (w10.alloc (Obj.cells #[(.int .i64 a), (.int .i64 b), (.int .i64 c), (.int .i64 d), (.slice C4' Cn4' Cc4'), (.slice C5' Cn5' Cc5')] tSp)) = w11 at *
  generalize w10.heap.size = b10 at *
  have q12 : St w w11 [RI (.slice C4' Cn4' Cc4') ps, RT (.slice C5' Cn5' Cc5') ts, RI (.slice S4' Sn4' Sc4') ps, RT (.slice S5' Sn5' Sc5') ts, Go.Proofs.YtldpmeaibkpojaaR.blk b10 #[(.int .i64 a), (.int .i64 b), (.int .i64 c), (.int .i64 d), (.slice C4' Cn4' Cc4'), (.slice C5' Cn5' Cc5')] tSp, RI (.slice W4' Wn4' Wc4') ps, RT (.slice W5' Wn5' Wc5') ts, Go.Proofs.YtldpmeaibkpojaaR.blk b5 #[(.int .i64 a), (.int .i64 b), (.int .i64 c), (.int .i64 d), (.slice W4' Wn4' Wc4'), (.slice W5' Wn5' Wc5')] tSp, Go.Proofs.YtldpmeaibkpojaaR.blk b3 #[(.int .i64 a'), (.int .i64 b'), (.int .i64 c'), (.int .i64 d'), (.slice O4' On4' Oc4'), (.slice O5' On5' Oc5')] tSp, Go.Proofs.YtldpmeaibkpojaaR.blk b2 #[(.int .i64 a), (.int .i64 b), (.int .i64 c), (.int .i64 d), (.slice S4' Sn4' Sc4'), (.slice S5' Sn5' Sc5')] tSp, RI (.slice O4' On4' Oc4') qs, RT (.slice O5' On5' Oc5') us] := ((((r6).pick 6).pick 6).pick 4).pick 4
  clear r6
  obtain ⟨bb, hbb⟩ : ∃ x, decide (spOf a b c d ps ts = spOf a' b' c' d' qs us) = x := ⟨_, rfl⟩
  have HBB := Lib.hid hbb
  clear hbb
  have K0 := Lib.hid (show w11.cell? ⟨b2, 0, none⟩ = some (.int .i64 a) ∧ w11.cell? ⟨b2, 1, none⟩ = some (.int .i64 b) ∧ w11.cell? ⟨b2, 2, none⟩ = some (.int .i64 c) ∧ w11.cell? ⟨b2, 3, none⟩ = some (.int .i64 d) ∧ w11.cell? ⟨b2, 4, none⟩ = some (.slice S4' Sn4' Sc4') ∧ w11.cell? ⟨b2, 5, none⟩ = some (.slice S5' Sn5' Sc5') ∧ w11.cell? ⟨b3, 0, none⟩ = some (.int .i64 a') ∧ w11.cell? ⟨b3, 1, none⟩ = some (.int .i64 b') ∧ w11.cell? ⟨b3, 2, none⟩ = some (.int .i64 c') ∧ w11.cell? ⟨b3, 3, none⟩ = some (.int .i64 d') ∧ w11.cell? ⟨b3, 4, none⟩ = some (.slice O4' On4' Oc4') ∧ w11.cell? ⟨b3, 5, none⟩ = some (.slice O5' On5' Oc5') ∧ w11.cell? ⟨b5, 0, none⟩ = some (.int .i64 a) ∧ w11.cell? ⟨b5, 1, none⟩ = some (.int .i64 b) ∧ w11.cell? ⟨b5, 2, none⟩ = some (.int .i64 c) ∧ w11.cell? ⟨b5, 3, none⟩ = some (.int .i64 d) ∧ w11.cell? ⟨b5, 4, none⟩ = some (.slice W4' Wn4' Wc4') ∧ w11.cell? ⟨b5, 5, none⟩ = some (.slice W5' Wn5' Wc5') ∧ w11.cell? ⟨b10, 0, none⟩ = some (.int .i64 a) ∧ w11.cell? ⟨b10, 1, none⟩ = some (.int .i64 b) ∧ w11.cell? ⟨b10, 2, none⟩ = some (.int .i64 c) ∧ w11.cell? ⟨b10, 3, none⟩ = some (.int .i64 d) ∧ w11.cell? ⟨b10, 4, none⟩ = some (.slice C4' Cn4' Cc4') ∧ w11.cell? ⟨b10, 5, none⟩ = some (.slice C5' Cn5' Cc5') from ⟨(q12.pick 9).cells 0, (q12.pick 9).cells 1, (q12.pick 9).cells 2, (q12.pick 9).cells 3, (q12.pick 9).cells 4, (q12.pick 9).cells 5, (q12.pick 8).cells 0, (q12.pick 8).cells 1, (q12.pick 8).cells 2, (q12.pick 8).cells 3, (q12.pick 8).cells 4, (q12.pick 8).cells 5, (q12.pick 7).cells 0, (q12.pick 7).cells 1, (q12.pick 7).cells 2, (q12.pick 7).cells 3, (q12.pick 7).cells 4, (q12.pick 7).cells 5, (q12.pick 4).cells 0, (q12.pick 4).cells 1, (q12.pick 4).cells 2, (q12.pick 4).cells 3, (q12.pick 4).cells 4, (q12.pick 4).cells 5⟩)
  have Q0 := Lib.hid q12
  clear q12
  go_region_held3 (fun w' => w'.cell? ⟨b2, 0, none⟩ = some (.int .i64 a) ∧ w'.cell? ⟨b2, 1, none⟩ = some (.int .i64 b) ∧ w'.cell? ⟨b2, 2, none⟩ = some (.int .i64 c) ∧ w'.cell? ⟨b2, 3, none⟩ = some (.int .i64 d) ∧ w'.cell? ⟨b2, 4, none⟩ = some (.slice S4' Sn4' Sc4') ∧ w'.cell? ⟨b2, 5, none⟩ = some (.slice S5' Sn5' Sc5') ∧ w'.cell? ⟨b3, 0, none⟩ = some (.int .i64 a') ∧ w'.cell? ⟨b3, 1, none⟩ = some (.int .i64 b') ∧ w'.cell? ⟨b3, 2, none⟩ = some (.int .i64 c') ∧ w'.cell? ⟨b3, 3, none⟩ = some (.int .i64 d') ∧ w'.cell? ⟨b3, 4, none⟩ = some (.slice O4' On4' Oc4') ∧ w'.cell? ⟨b3, 5, none⟩ = some (.slice O5' On5' Oc5') ∧ w'.cell? ⟨b5, 0, none⟩ = some (.int .i64 a) ∧ w'.cell? ⟨b5, 1, none⟩ = some (.int .i64 b) ∧ w'.cell? ⟨b5, 2, none⟩ = some (.int .i64 c) ∧ w'.cell? ⟨b5, 3, none⟩ = some (.int .i64 d) ∧ w'.cell? ⟨b5, 4, none⟩ = some (.slice W4' Wn4' Wc4') ∧ w'.cell? ⟨b5, 5, none⟩ = some (.slice W5' Wn5' Wc5') ∧ w'.cell? ⟨b10, 0, none⟩ = some (.int .i64 a) ∧ w'.cell? ⟨b10, 1, none⟩ = some (.int .i64 b) ∧ w'.cell? ⟨b10, 2, none⟩ = some (.int .i64 c) ∧ w'.cell? ⟨b10, 3, none⟩ = some (.int .i64 d) ∧ w'.cell? ⟨b10, 4, none⟩ = some (.slice C4' Cn4' Cc4') ∧ w'.cell? ⟨b10, 5, none⟩ = some (.slice C5' Cn5' Cc5')) (first | exact K0.out | exact K1.out | exact K2.out | exact K3.out | exact K4.out | exact K5.out | exact K6.out | exact K7.out) (first | (go_at_call 11; (first | (with_reducible refine (kequ_s a b c d a b c d ps ps ts ts HL.out.1 HL.out.2.1 true (by simp) (show St w _ [RI (.slice C4' Cn4' Cc4') ps, RT (.slice C5' Cn5' Cc5') ts, RI (.slice S4' Sn4' Sc4') ps, RT (.slice S5' Sn5' Sc5') ts, Go.Proofs.YtldpmeaibkpojaaR.blk b10 #[(.int .i64 a), (.int .i64 b), (.int .i64 c), (.int .i64 d), (.slice C4' Cn4' Cc4'), (.slice C5' Cn5' Cc5')] tSp, RI (.slice W4' Wn4' Wc4') ps, RT (.slice W5' Wn5' Wc5') ts, Go.Proofs.YtldpmeaibkpojaaR.blk b5 #[(.int .i64 a), (.int .i64 b), (.int .i64 c), (.int .i64 d), (.slice W4' Wn4' Wc4'), (.slice W5' Wn5' Wc5')] tSp, Go.Proofs.YtldpmeaibkpojaaR.blk b3 #[(.int .i64 a'), (.int .i64 b'), (.int .i64 c'), (.int .i64 d'), (.slice O4' On4' Oc4'), (.slice O5' On5' Oc5')] tSp, Go.Proofs.YtldpmeaibkpojaaR.blk b2 #[(.int .i64 a), (.int .i64 b), (.int .i64 c), (.int .i64 d), (.slice S4' Sn4' Sc4'), (.slice S5' Sn5' Sc5')] tSp, RI (.slice O4' On4' Oc4') qs, RT (.slice O5' On5' Oc5') us] from ((((Q0.out).pick 3).pick 3).pick 3).pick 3)).mono ?_) | (with_reducible refine (kequ_s a b c d a b c d ps ps ts ts HL.out.1 HL.out.2.1 true (by simp) (show St w _ [RI (.slice C4' Cn4' Cc4') ps, RT (.slice C5' Cn5' Cc5') ts, RI (.slice S4' Sn4' Sc4') ps, RT (.slice S5' Sn5' Sc5') ts, Go.Proofs.YtldpmeaibkpojaaR.blk b10 #[(.int .i64 a), (.int .i64 b), (.int .i64 c), (.int .i64 d), (.slice C4' Cn4' Cc4'), (.slice C5' Cn5' Cc5')] tSp, RI (.slice W4' Wn4' Wc4') ps, RT (.slice W5' Wn5' Wc5') ts, Go.Proofs.YtldpmeaibkpojaaR.blk b5 #[(.int .i64 a), (.int .i64 b), (.int .i64 c), (.int .i64 d), (.slice W4' Wn4' Wc4'), (.slice W5' Wn5' Wc5')] tSp, Go.Proofs.YtldpmeaibkpojaaR.blk b3 #[(.int .i64 a'), (.int .i64 b'), (.int .i64 c'), (.int .i64 d'), (.slice O4' On4' Oc4'), (.slice O5' On5' Oc5')] tSp, Go.Proofs.YtldpmeaibkpojaaR.blk b2 #[(.int .i64 a), (.int .i64 b), (.int .i64 c), (.int .i64 d), (.slice S4' Sn4' Sc4'), (.slice S5' Sn5' Sc5')] tSp, RI (.slice O4' On4' Oc4') qs, RT (.slice O5' On5' Oc5') us] from ((((Q0.out.drew).pick 3).pick 3).pick 3).pick 3)).mono ?_)); rintro e_ v1 ⟨rfl, z1⟩; have K1 := Lib.hid (show v1.cell? ⟨b2, 0, none⟩ = some (.int .i64 a) ∧ v1.cell? ⟨b2, 1, none⟩ = some (.int .i64 b) ∧ v1.cell? ⟨b2, 2, none⟩ = some (.int .i64 c) ∧ v1.cell? ⟨b2, 3, none⟩ = some (.int .i64 d) ∧ v1.cell? ⟨b2, 4, none⟩ = some (.slice S4' Sn4' Sc4') ∧ v1.cell? ⟨b2, 5, none⟩ = some (.slice S5' Sn5' Sc5') ∧ v1.cell? ⟨b3, 0, none⟩ = some (.int .i64 a') ∧ v1.cell? ⟨b3, 1, none⟩ = some (.int .i64 b') ∧ v1.cell? ⟨b3, 2, none⟩ = some (.int .i64 c') ∧ v1.cell? ⟨b3, 3, none⟩ = some (.int .i64 d') ∧ v1.cell? ⟨b3, 4, none⟩ = some (.slice O4' On4' Oc4') ∧ v1.cell? ⟨b3, 5, none⟩ = some (.slice O5' On5' Oc5') ∧ v1.cell? ⟨b5, 0, none⟩ = some (.int .i64 a) ∧ v1.cell? ⟨b5, 1, none⟩ = some (.int .i64 b) ∧ v1.cell? ⟨b5, 2, none⟩ = some (.int .i64 c) ∧ v1.cell? ⟨b5, 3, none⟩ = some (.int .i64 d) ∧ v1.cell? ⟨b5, 4, none⟩ = some (.slice W4' Wn4' Wc4') ∧ v1.cell? ⟨b5, 5, none⟩ = some (.slice W5' Wn5' Wc5') ∧ v1.cell? ⟨b10, 0, none⟩ = some (.int .i64 a) ∧ v1.cell? ⟨b10, 1, none⟩ = some (.int .i64 b) ∧ v1.cell? ⟨b10, 2, none⟩ = some (.int .i64 c) ∧ v1.cell? ⟨b10, 3, none⟩ = some (.int .i64 d) ∧ v1.cell? ⟨b10, 4, none⟩ = some (.slice C4' Cn4' Cc4') ∧ v1.cell? ⟨b10, 5, none⟩ = some (.slice C5' Cn5' Cc5') from ⟨(z1.pick 9).cells 0, (z1.pick 9).cells 1, (z1.pick 9).cells 2, (z1.pick 9).cells 3, (z1.pick 9).cells 4, (z1.pick 9).cells 5, (z1.pick 8).cells 0, (z1.pick 8).cells 1, (z1.pick 8).cells 2, (z1.pick 8).cells 3, (z1.pick 8).cells 4, (z1.pick 8).cells 5, (z1.pick 7).cells 0, (z1.pick 7).cells 1, (z1.pick 7).cells 2, (z1.pick 7).cells 3, (z1.pick 7).cells 4, (z1.pick 7).cells 5, (z1.pick 4).cells 0, (z1.pick 4).cells 1, (z1.pick 4).cells 2, (z1.pick 4).cells 3, (z1.pick 4).cells 4, (z1.pick 4).cells 5⟩); have Q1 := Lib.hid z1; clear z1) | (go_at_call 19; (first | (with_reducible refine (chk_s a b c d ps ts (show St w _ [RI (.slice W4' Wn4' Wc4') ps, RT (.slice W5' Wn5' Wc5') ts, RI (.slice C4' Cn4' Cc4') ps, RT (.slice C5' Cn5' Cc5') ts, RI (.slice S4' Sn4' Sc4') ps, RT (.slice S5' Sn5' Sc5') ts, Go.Proofs.YtldpmeaibkpojaaR.blk b10 #[(.int .i64 a), (.int .i64 b), (.int .i64 c), (.int .i64 d), (.slice C4' Cn4' Cc4'), (.slice C5' Cn5' Cc5')] tSp, Go.Proofs.YtldpmeaibkpojaaR.blk b5 #[(.int .i64 a), (.int .i64 b), (.int .i64 c), (.int .i64 d), (.slice W4' Wn4' Wc4'), (.slice W5' Wn5' Wc5')] tSp, Go.Proofs.YtldpmeaibkpojaaR.blk b3 #[(.int .i64 a'), (.int .i64 b'), (.int .i64 c'), (.int .i64 d'), (.slice O4' On4' Oc4'), (.slice O5' On5' Oc5')] tSp, Go.Proofs.YtldpmeaibkpojaaR.blk b2 #[(.int .i64 a), (.int .i64 b), (.int .i64 c), (.int .i64 d), (.slice S4' Sn4' Sc4'), (.slice S5' Sn5' Sc5')] tSp, RI (.slice O4' On4' Oc4') qs, RT (.slice O5' On5' Oc5') us] from ((Q1.out).pick 6).pick 6) er HE.out).mono ?_) | (with_reducible refine (chk_s a b c d ps ts (show St w _ [RI (.slice W4' Wn4' Wc4') ps, RT (.slice W5' Wn5' Wc5') ts, RI (.slice C4' Cn4' Cc4') ps, RT (.slice C5' Cn5' Cc5') ts, RI (.slice S4' Sn4' Sc4') ps, RT (.slice S5' Sn5' Sc5') ts, Go.Proofs.YtldpmeaibkpojaaR.blk b10 #[(.int .i64 a), (.int .i64 b), (.int .i64 c), (.int .i64 d), (.slice C4' Cn4' Cc4'), (.slice C5' Cn5' Cc5')] tSp, Go.Proofs.YtldpmeaibkpojaaR.blk b5 #[(.int .i64 a), (.int .i64 b), (.int .i64 c), (.int .i64 d), (.slice W4' Wn4' Wc4'), (.slice W5' Wn5' Wc5')] tSp, Go.Proofs.YtldpmeaibkpojaaR.blk b3 #[(.int .i64 a'), (.int .i64 b'), (.int .i64 c'), (.int .i64 d'), (.slice O4' On4' Oc4'), (.slice O5' On5' Oc5')] tSp, Go.Proofs.YtldpmeaibkpojaaR.blk b2 #[(.int .i64 a), (.int .i64 b), (.int .i64 c), (.int .i64 d), (.slice S4' Sn4' Sc4'), (.slice S5' Sn5' Sc5')] tSp, RI (.slice O4' On4' Oc4') qs, RT (.slice O5' On5' Oc5') us] from ((Q1.out.drew).pick 6).pick 6) er HE.out).mono ?_)); rintro e_ v2 ⟨rfl, z2⟩; have K2 := Lib.hid (show v2.cell? ⟨b2, 0, none⟩ = some (.int .i64 a) ∧ v2.cell? ⟨b2, 1, none⟩ = some (.int .i64 b) ∧ v2.cell? ⟨b2, 2, none⟩ = some (.int .i64 c) ∧ v2.cell? ⟨b2, 3, none⟩ = some (.int .i64 d) ∧ v2.cell? ⟨b2, 4, none⟩ = some (.slice S4' Sn4' Sc4') ∧ v2.cell? ⟨b2, 5, none⟩ = some (.slice S5' Sn5' Sc5') ∧ v2.cell? ⟨b3, 0, none⟩ = some (.int .i64 a') ∧ v2.cell? ⟨b3, 1, none⟩ = some (.int .i64 b') ∧ v2.cell? ⟨b3, 2, none⟩ = some (.int .i64 c') ∧ v2.cell? ⟨b3, 3, none⟩ = some (.int .i64 d') ∧ v2.cell? ⟨b3, 4, none⟩ = some (.slice O4' On4' Oc4') ∧ v2.cell? ⟨b3, 5, none⟩ = some (.slice O5' On5' Oc5') ∧ v2.cell? ⟨b5, 0, none⟩ = some (.int .i64 a) ∧ v2.cell? ⟨b5, 1, none⟩ = some (.int .i64 b) ∧ v2.cell? ⟨b5, 2, none⟩ = some (.int .i64 c) ∧ v2.cell? ⟨b5, 3, none⟩ = some (.int .i64 d) ∧ v2.cell? ⟨b5, 4, none⟩ = some (.slice W4' Wn4' Wc4') ∧ v2.cell? ⟨b5, 5, none⟩ = some (.slice W5' Wn5' Wc5') ∧ v2.cell? ⟨b10, 0, none⟩ = some (.int .i64 a) ∧ v2.cell? ⟨b10, 1, none⟩ = some (.int .i64 b) ∧ v2.cell? ⟨b10, 2, none⟩ = some (.int .i64 c) ∧ v2.cell? ⟨b10, 3, none⟩ = some (.int .i64 d) ∧ v2.cell? ⟨b10, 4, none⟩ = some (.slice C4' Cn4' Cc4') ∧ v2.cell? ⟨b10, 5, none⟩ = some (.slice C5' Cn5' Cc5') from ⟨(z2.pick 9).cells 0, (z2.pick 9).cells 1, (z2.pick 9).cells 2, (z2.pick 9).cells 3, (z2.pick 9).cells 4, (z2.pick 9).cells 5, (z2.pick 8).cells 0, (z2.pick 8).cells 1, (z2.pick 8).cells 2, (z2.pick 8).cells 3, (z2.pick 8).cells 4, (z2.pick 8).cells 5, (z2.pick 7).cells 0, (z2.pick 7).cells 1, (z2.pick 7).cells 2, (z2.pick 7).cells 3, (z2.pick 7).cells 4, (z2.pick 7).cells 5, (z2.pick 6).cells 0, (z2.pick 6).cells 1, (z2.pick 6).cells 2, (z2.pick 6).cells 3, (z2.pick 6).cells 4, (z2.pick 6).cells 5⟩); have Q2 := Lib.hid z2; clear z2) | (go_at_call 23; (first | (with_reducible refine (rchk_s a b c d ps ts (show St w _ [RI (.slice S4' Sn4' Sc4') ps, RT (.slice S5' Sn5' Sc5') ts, RI (.slice W4' Wn4' Wc4') ps, RT (.slice W5' Wn5' Wc5') ts, RI (.slice C4' Cn4' Cc4') ps, RT (.slice C5' Cn5' Cc5') ts, Go.Proofs.YtldpmeaibkpojaaR.blk b10 #[(.int .i64 a), (.int .i64 b), (.int .i64 c), (.int .i64 d), (.slice C4' Cn4' Cc4'), (.slice C5' Cn5' Cc5')] tSp, Go.Proofs.YtldpmeaibkpojaaR.blk b5 #[(.int .i64 a), (.int .i64 b), (.int .i64 c), (.int .i64 d), (.slice W4' Wn4' Wc4'), (.slice W5' Wn5' Wc5')] tSp, Go.Proofs.YtldpmeaibkpojaaR.blk b3 #[(.int .i64 a'), (.int .i64 b'), (.int .i64 c'), (.int .i64 d'), (.slice O4' On4' Oc4'), (.slice O5' On5' Oc5')] tSp, Go.Proofs.YtldpmeaibkpojaaR.blk b2 #[(.int .i64 a), (.int .i64 b), (.int .i64 c), (.int .i64 d), (.slice S4' Sn4' Sc4'), (.slice S5' Sn5' Sc5')] tSp, RI (.slice O4' On4' Oc4') qs, RT (.slice O5' On5' Oc5') us] from ((Q2.out).pick 5).pick 5) er HE.out).mono ?_) | (with_reducible refine (rchk_s a b c d ps ts (show St w _ [RI (.slice S4' Sn4' Sc4') ps, RT (.slice S5' Sn5' Sc5') ts, RI (.slice W4' Wn4' Wc4') ps, RT (.slice W5' Wn5' Wc5') ts, RI (.slice C4' Cn4' Cc4') ps, RT (.slice C5' Cn5' Cc5') ts, Go.Proofs.YtldpmeaibkpojaaR.blk b10 #[(.int .i64 a), (.int .i64 b), (.int .i64 c), (.int .i64 d), (.slice C4' Cn4' Cc4'), (.slice C5' Cn5' Cc5')] tSp, Go.Proofs.YtldpmeaibkpojaaR.blk b5 #[(.int .i64 a), (.int .i64 b), (.int .i64 c), (.int .i64 d), (.slice W4' Wn4' Wc4'), (.slice W5' Wn5' Wc5')] tSp, Go.Proofs.YtldpmeaibkpojaaR.blk b3 #[(.int .i64 a'), (.int .i64 b'), (.int .i64 c'), (.int .i64 d'), (.slice O4' On4' Oc4'), (.slice O5' On5' Oc5')] tSp, Go.Proofs.YtldpmeaibkpojaaR.blk b2 #[(.int .i64 a), (.int .i64 b), (.int .i64 c), (.int .i64 d), (.slice S4' Sn4' Sc4'), (.slice S5' Sn5' Sc5')] tSp, RI (.slice O4' On4' Oc4') qs, RT (.slice O5' On5' Oc5') us] from ((Q2.out.drew).pick 5).pick 5) er HE.out).mono ?_)); rintro e_ v3 ⟨rfl, z3⟩; have K3 := Lib.hid (show v3.cell? ⟨b2, 0, none⟩ = some (.int .i64 a) ∧ v3.cell? ⟨b2, 1, none⟩ = some (.int .i64 b) ∧ v3.cell? ⟨b2, 2, none⟩ = some (.int .i64 c) ∧ v3.cell? ⟨b2, 3, none⟩ = some (.int .i64 d) ∧ v3.cell? ⟨b2, 4, none⟩ = some (.slice S4' Sn4' Sc4') ∧ v3.cell? ⟨b2, 5, none⟩ = some (.slice S5' Sn5' Sc5') ∧ v3.cell? ⟨b3, 0, none⟩ = some (.int .i64 a') ∧ v3.cell? ⟨b3, 1, none⟩ = some (.int .i64 b') ∧ v3.cell? ⟨b3, 2, none⟩ = some (.int .i64 c') ∧ v3.cell? ⟨b3, 3, none⟩ = some (.int .i64 d') ∧ v3.cell? ⟨b3, 4, none⟩ = some (.slice O4' On4' Oc4') ∧ v3.cell? ⟨b3, 5, none⟩ = some (.slice O5' On5' Oc5') ∧ v3.cell? ⟨b5, 0, none⟩ = some (.int .i64 a) ∧ v3.cell? ⟨b5, 1, none⟩ = some (.int .i64 b) ∧ v3.cell? ⟨b5, 2, none⟩ = some (.int .i64 c) ∧ v3.cell? ⟨b5, 3, none⟩ = some (.int .i64 d) ∧ v3.cell? ⟨b5, 4, none⟩ = some (.slice W4' Wn4' Wc4') ∧ v3.cell? ⟨b5, 5, none⟩ = some (.slice W5' Wn5' Wc5') ∧ v3.cell? ⟨b10, 0, none⟩ = some (.int .i64 a) ∧ v3.cell? ⟨b10, 1, none⟩ = some (.int .i64 b) ∧ v3.cell? ⟨b10, 2, none⟩ = some (.int .i64 c) ∧ v3.cell? ⟨b10, 3, none⟩ = some (.int .i64 d) ∧ v3.cell? ⟨b10, 4, none⟩ = some (.slice C4' Cn4' Cc4') ∧ v3.cell? ⟨b10, 5, none⟩ = some (.slice C5' Cn5' Cc5') from ⟨(z3.pick 9).cells 0, (z3.pick 9).cells 1, (z3.pick 9).cells 2, (z3.pick 9).cells 3, (z3.pick 9).cells 4, (z3.pick 9).cells 5, (z3.pick 8).cells 0, (z3.pick 8).cells 1, (z3.pick 8).cells 2, (z3.pick 8).cells 3, (z3.pick 8).cells 4, (z3.pick 8).cells 5, (z3.pick 7).cells 0, (z3.pick 7).cells 1, (z3.pick 7).cells 2, (z3.pick 7).cells 3, (z3.pick 7).cells 4, (z3.pick 7).cells 5, (z3.pick 6).cells 0, (z3.pick 6).cells 1, (z3.pick 6).cells 2, (z3.pick 6).cells 3, (z3.pick 6).cells 4, (z3.pick 6).cells 5⟩); have Q3 := Lib.hid z3; clear z3) | (go_at_call 20; (first | (with_reducible refine (sequ_s a b c d a' b' c' d' ps qs ts us HL.out.1 HL.out.2.1 bb HBB.out (show St w _ [RI (.slice W4' Wn4' Wc4') ps, RT (.slice W5' Wn5' Wc5') ts, RI (.slice O4' On4' Oc4') qs, RT (.slice O5' On5' Oc5') us, RI (.slice S4' Sn4' Sc4') ps, RT (.slice S5' Sn5' Sc5') ts, RI (.slice C4' Cn4' Cc4') ps, RT (.slice C5' Cn5' Cc5') ts, Go.Proofs.YtldpmeaibkpojaaR.blk b10 #[(.int .i64 a), (.int .i64 b), (.int .i64 c), (.int .i64 d), (.slice C4' Cn4' Cc4'), (.slice C5' Cn5' Cc5')] tSp, Go.Proofs.YtldpmeaibkpojaaR.blk b5 #[(.int .i64 a), (.int .i64 b), (.int .i64 c), (.int .i64 d), (.slice W4' Wn4' Wc4'), (.slice W5' Wn5' Wc5')] tSp, Go.Proofs.YtldpmeaibkpojaaR.blk b3 #[(.int .i64 a'), (.int .i64 b'), (.int .i64 c'), (.int .i64 d'), (.slice O4' On4' Oc4'), (.slice O5' On5' Oc5')] tSp, Go.Proofs.YtldpmeaibkpojaaR.blk b2 #[(.int .i64 a), (.int .i64 b), (.int .i64 c), (.int .i64 d), (.slice S4' Sn4' Sc4'), (.slice S5' Sn5' Sc5')] tSp] from ((((Q3.out).pick 11).pick 11).pick 5).pick 5)).mono ?_) | (with_reducible refine (sequ_s a b c d a' b' c' d' ps qs ts us HL.out.1 HL.out.2.1 bb HBB.out (show St w _ [RI (.slice W4' Wn4' Wc4') ps, RT (.slice W5' Wn5' Wc5') ts, RI (.slice O4' On4' Oc4') qs, RT (.slice O5' On5' Oc5') us, RI (.slice S4' Sn4' Sc4') ps, RT (.slice S5' Sn5' Sc5') ts, RI (.slice C4' Cn4' Cc4') ps, RT (.slice C5' Cn5' Cc5') ts, Go.Proofs.YtldpmeaibkpojaaR.blk b10 #[(.int .i64 a), (.int .i64 b), (.int .i64 c), (.int .i64 d), (.slice C4' Cn4' Cc4'), (.slice C5' Cn5' Cc5')] tSp, Go.Proofs.YtldpmeaibkpojaaR.blk b5 #[(.int .i64 a), (.int .i64 b), (.int .i64 c), (.int .i64 d), (.slice W4' Wn4' Wc4'), (.slice W5' Wn5' Wc5')] tSp, Go.Proofs.YtldpmeaibkpojaaR.blk b3 #[(.int .i64 a'), (.int .i64 b'), (.int .i64 c'), (.int .i64 d'), (.slice O4' On4' Oc4'), (.slice O5' On5' Oc5')] tSp, Go.Proofs.YtldpmeaibkpojaaR.blk b2 #[(.int .i64 a), (.int .i64 b), (.int .i64 c), (.int .i64 d), (.slice S4' Sn4' Sc4'), (.slice S5' Sn5' Sc5')] tSp] from ((((Q3.out.drew).pick 11).pick 11).pick 5).pick 5)).mono ?_)); rintro e_ v4 ⟨rfl, z4⟩; have K4 := Lib.hid (show v4.cell? ⟨b2, 0, none⟩ = some (.int .i64 a) ∧ v4.cell? ⟨b2, 1, none⟩ = some (.int .i64 b) ∧ v4.cell? ⟨b2, 2, none⟩ = some (.int .i64 c) ∧ v4.cell? ⟨b2, 3, none⟩ = some (.int .i64 d) ∧ v4.cell? ⟨b2, 4, none⟩ = some (.slice S4' Sn4' Sc4') ∧ v4.cell? ⟨b2, 5, none⟩ = some (.slice S5' Sn5' Sc5') ∧ v4.cell? ⟨b3, 0, none⟩ = some (.int .i64 a') ∧ v4.cell? ⟨b3, 1, none⟩ = some (.int .i64 b') ∧ v4.cell? ⟨b3, 2, none⟩ = some (.int .i64 c') ∧ v4.cell? ⟨b3, 3, none⟩ = some (.int .i64 d') ∧ v4.cell? ⟨b3, 4, none⟩ = some (.slice O4' On4' Oc4') ∧ v4.cell? ⟨b3, 5, none⟩ = some (.slice O5' On5' Oc5') ∧ v4.cell? ⟨b5, 0, none⟩ = some (.int .i64 a) ∧ v4.cell? ⟨b5, 1, none⟩ = some (.int .i64 b) ∧ v4.cell? ⟨b5, 2, none⟩ = some (.int .i64 c) ∧ v4.cell? ⟨b5, 3, none⟩ = some (.int .i64 d) ∧ v4.cell? ⟨b5, 4, none⟩ = some (.slice W4' Wn4' Wc4') ∧ v4.cell? ⟨b5, 5, none⟩ = some (.slice W5' Wn5' Wc5') ∧ v4.cell? ⟨b10, 0, none⟩ = some (.int .i64 a) ∧ v4.cell? ⟨b10, 1, none⟩ = some (.int .i64 b) ∧ v4.cell? ⟨b10, 2, none⟩ = some (.int .i64 c) ∧ v4.cell? ⟨b10, 3, none⟩ = some (.int .i64 d) ∧ v4.cell? ⟨b10, 4, none⟩ = some (.slice C4' Cn4' Cc4') ∧ v4.cell? ⟨b10, 5, none⟩ = some (.slice C5' Cn5' Cc5') from ⟨(z4.pick 11).cells 0, (z4.pick 11).cells 1, (z4.pick 11).cells 2, (z4.pick 11).cells 3, (z4.pick 11).cells 4, (z4.pick 11).cells 5, (z4.pick 10).cells 0, (z4.pick 10).cells 1, (z4.pick 10).cells 2, (z4.pick 10).cells 3, (z4.pick 10).cells 4, (z4.pick 10).cells 5, (z4.pick 9).cells 0, (z4.pick 9).cells 1, (z4.pick 9).cells 2, (z4.pick 9).cells 3, (z4.pick 9).cells 4, (z4.pick 9).cells 5, (z4.pick 8).cells 0, (z4.pick 8).cells 1, (z4.pick 8).cells 2, (z4.pick 8).cells 3, (z4.pick 8).cells 4, (z4.pick 8).cells 5⟩); have Q4 := Lib.hid z4; clear z4) | (go_at_call 11; (first | (with_reducible refine (kequ_s a b c d a' b' c' d' ps qs ts us HL.out.1 HL.out.2.1 bb HBB.out (show St w _ [RI (.slice S4' Sn4' Sc4') ps, RT (.slice S5' Sn5' Sc5') ts, RI (.slice O4' On4' Oc4') qs, RT (.slice O5' On5' Oc5') us, RI (.slice W4' Wn4' Wc4') ps, RT (.slice W5' Wn5' Wc5') ts, RI (.slice C4' Cn4' Cc4') ps, RT (.slice C5' Cn5' Cc5') ts, Go.Proofs.YtldpmeaibkpojaaR.blk b10 #[(.int .i64 a), (.int .i64 b), (.int .i64 c), (.int .i64 d), (.slice C4' Cn4' Cc4'), (.slice C5' Cn5' Cc5')] tSp, Go.Proofs.YtldpmeaibkpojaaR.blk b5 #[(.int .i64 a), (.int .i64 b), (.int .i64 c), (.int .i64 d), (.slice W4' Wn4' Wc4'), (.slice W5' Wn5' Wc5')] tSp, Go.Proofs.YtldpmeaibkpojaaR.blk b3 #[(.int .i64 a'), (.int .i64 b'), (.int .i64 c'), (.int .i64 d'), (.slice O4' On4' Oc4'), (.slice O5' On5' Oc5')] tSp, Go.Proofs.YtldpmeaibkpojaaR.blk b2 #[(.int .i64 a), (.int .i64 b), (.int .i64 c), (.int .i64 d), (.slice S4' Sn4' Sc4'), (.slice S5' Sn5' Sc5')] tSp] from ((((Q4.out).pick 3).pick 3).pick 5).pick 5)).mono ?_) | (with_reducible refine (kequ_s a b c d a' b' c' d' ps qs ts us HL.out.1 HL.out.2.1 bb HBB.out (show St w _ [RI (.slice S4' Sn4' Sc4') ps, RT (.slice S5' Sn5' Sc5') ts, RI (.slice O4' On4' Oc4') qs, RT (.slice O5' On5' Oc5') us, RI (.slice W4' Wn4' Wc4') ps, RT (.slice W5' Wn5' Wc5') ts, RI (.slice C4' Cn4' Cc4') ps, RT (.slice C5' Cn5' Cc5') ts, Go.Proofs.YtldpmeaibkpojaaR.blk b10 #[(.int .i64 a), (.int .i64 b), (.int .i64 c), (.int .i64 d), (.slice C4' Cn4' Cc4'), (.slice C5' Cn5' Cc5')] tSp, Go.Proofs.YtldpmeaibkpojaaR.blk b5 #[(.int .i64 a), (.int .i64 b), (.int .i64 c), (.int .i64 d), (.slice W4' Wn4' Wc4'), (.slice W5' Wn5' Wc5')] tSp, Go.Proofs.YtldpmeaibkpojaaR.blk b3 #[(.int .i64 a'), (.int .i64 b'), (.int .i64 c'), (.int .i64 d'), (.slice O4' On4' Oc4'), (.slice O5' On5' Oc5')] tSp, Go.Proofs.YtldpmeaibkpojaaR.blk b2 #[(.int .i64 a), (.int .i64 b), (.int .i64 c), (.int .i64 d), (.slice S4' Sn4' Sc4'), (.slice S5' Sn5' Sc5')] tSp] from ((((Q4.out.drew).pick 3).pick 3).pick 5).pick 5)).mono ?_)); rintro e_ v5 ⟨rfl, z5⟩; have K5 := Lib.hid (show v5.cell? ⟨b2, 0, none⟩ = some (.int .i64 a) ∧ v5.cell? ⟨b2, 1, none⟩ = some (.int .i64 b) ∧ v5.cell? ⟨b2, 2, none⟩ = some (.int .i64 c) ∧ v5.cell? ⟨b2, 3, none⟩ = some (.int .i64 d) ∧ v5.cell? ⟨b2, 4, none⟩ = some (.slice S4' Sn4' Sc4') ∧ v5.cell? ⟨b2, 5, none⟩ = some (.slice S5' Sn5' Sc5') ∧ v5.cell? ⟨b3, 0, none⟩ = some (.int .i64 a') ∧ v5.cell? ⟨b3, 1, none⟩ = some (.int .i64 b') ∧ v5.cell? ⟨b3, 2, none⟩ = some (.int .i64 c') ∧ v5.cell? ⟨b3, 3, none⟩ = some (.int .i64 d') ∧ v5.cell? ⟨b3, 4, none⟩ = some (.slice O4' On4' Oc4') ∧ v5.cell? ⟨b3, 5, none⟩ = some (.slice O5' On5' Oc5') ∧ v5.cell? ⟨b5, 0, none⟩ = some (.int .i64 a) ∧ v5.cell? ⟨b5, 1, none⟩ = some (.int .i64 b) ∧ v5.cell? ⟨b5, 2, none⟩ = some (.int .i64 c) ∧ v5.cell? ⟨b5, 3, none⟩ = some (.int .i64 d) ∧ v5.cell? ⟨b5, 4, none⟩ = some (.slice W4' Wn4' Wc4') ∧ v5.cell? ⟨b5, 5, none⟩ = some (.slice W5' Wn5' Wc5') ∧ v5.cell? ⟨b10, 0, none⟩ = some (.int .i64 a) ∧ v5.cell? ⟨b10, 1, none⟩ = some (.int .i64 b) ∧ v5.cell? ⟨b10, 2, none⟩ = some (.int .i64 c) ∧ v5.cell? ⟨b10, 3, none⟩ = some (.int .i64 d) ∧ v5.cell? ⟨b10, 4, none⟩ = some (.slice C4' Cn4' Cc4') ∧ v5.cell? ⟨b10, 5, none⟩ = some (.slice C5' Cn5' Cc5') from ⟨(z5.pick 11).cells 0, (z5.pick 11).cells 1, (z5.pick 11).cells 2, (z5.pick 11).cells 3, (z5.pick 11).cells 4, (z5.pick 11).cells 5, (z5.pick 10).cells 0, (z5.pick 10).cells 1, (z5.pick 10).cells 2, (z5.pick 10).cells 3, (z5.pick 10).cells 4, (z5.pick 10).cells 5, (z5.pick 9).cells 0, (z5.pick 9).cells 1, (z5.pick 9).cells 2, (z5.pick 9).cells 3, (z5.pick 9).cells 4, (z5.pick 9).cells 5, (z5.pick 8).cells 0, (z5.pick 8).cells 1, (z5.pick 8).cells 2, (z5.pick 8).cells 3, (z5.pick 8).cells 4, (z5.pick 8).cells 5⟩); have Q5 := Lib.hid z5; clear z5) | (go_at_call 17; (first | (with_reducible refine (few_s a b c d ps ts HL.out.1 HL.out.2.1 (show St w _ [RI (.slice S4' Sn4' Sc4') ps, RT (.slice S5' Sn5' Sc5') ts, RI (.slice O4' On4' Oc4') qs, RT (.slice O5' On5' Oc5') us, RI (.slice W4' Wn4' Wc4') ps, RT (.slice W5' Wn5' Wc5') ts, RI (.slice C4' Cn4' Cc4') ps, RT (.slice C5' Cn5' Cc5') ts, Go.Proofs.YtldpmeaibkpojaaR.blk b10 #[(.int .i64 a), (.int .i64 b), (.int .i64 c), (.int .i64 d), (.slice C4' Cn4' Cc4'), (.slice C5' Cn5' Cc5')] tSp, Go.Proofs.YtldpmeaibkpojaaR.blk b5 #[(.int .i64 a), (.int .i64 b), (.int .i64 c), (.int .i64 d), (.slice W4' Wn4' Wc4'), (.slice W5' Wn5' Wc5')] tSp, Go.Proofs.YtldpmeaibkpojaaR.blk b3 #[(.int .i64 a'), (.int .i64 b'), (.int .i64 c'), (.int .i64 d'), (.slice O4' On4' Oc4'), (.slice O5' On5' Oc5')] tSp, Go.Proofs.YtldpmeaibkpojaaR.blk b2 #[(.int .i64 a), (.int .i64 b), (.int .i64 c), (.int .i64 d), (.slice S4' Sn4' Sc4'), (.slice S5' Sn5' Sc5')] tSp] from ((Q5.out).pick 1).pick 1)).mono ?_) | (with_reducible refine (few_s a b c d ps ts HL.out.1 HL.out.2.1 (show St w _ [RI (.slice S4' Sn4' Sc4') ps, RT (.slice S5' Sn5' Sc5') ts, RI (.slice O4' On4' Oc4') qs, RT (.slice O5' On5' Oc5') us, RI (.slice W4' Wn4' Wc4') ps, RT (.slice W5' Wn5' Wc5') ts, RI (.slice C4' Cn4' Cc4') ps, RT (.slice C5' Cn5' Cc5') ts, Go.Proofs.YtldpmeaibkpojaaR.blk b10 #[(.int .i64 a), (.int .i64 b), (.int .i64 c), (.int .i64 d), (.slice C4' Cn4' Cc4'), (.slice C5' Cn5' Cc5')] tSp, Go.Proofs.YtldpmeaibkpojaaR.blk b5 #[(.int .i64 a), (.int .i64 b), (.int .i64 c), (.int .i64 d), (.slice W4' Wn4' Wc4'), (.slice W5' Wn5' Wc5')] tSp, Go.Proofs.YtldpmeaibkpojaaR.blk b3 #[(.int .i64 a'), (.int .i64 b'), (.int .i64 c'), (.int .i64 d'), (.slice O4' On4' Oc4'), (.slice O5' On5' Oc5')] tSp, Go.Proofs.YtldpmeaibkpojaaR.blk b2 #[(.int .i64 a), (.int .i64 b), (.int .i64 c), (.int .i64 d), (.slice S4' Sn4' Sc4'), (.slice S5' Sn5' Sc5')] tSp] from ((Q5.out.drew).pick 1).pick 1)).mono ?_)); rintro e_ v6 ⟨F4', F5', Fc4', Fc5', Fn4', Fn5', rfl, z6⟩; have K6 := Lib.hid (show v6.cell? ⟨b2, 0, none⟩ = some (.int .i64 a) ∧ v6.cell? ⟨b2, 1, none⟩ = some (.int .i64 b) ∧ v6.cell? ⟨b2, 2, none⟩ = some (.int .i64 c) ∧ v6.cell? ⟨b2, 3, none⟩ = some (.int .i64 d) ∧ v6.cell? ⟨b2, 4, none⟩ = some (.slice S4' Sn4' Sc4') ∧ v6.cell? ⟨b2, 5, none⟩ = some (.slice S5' Sn5' Sc5') ∧ v6.cell? ⟨b3, 0, none⟩ = some (.int .i64 a') ∧ v6.cell? ⟨b3, 1, none⟩ = some (.int .i64 b') ∧ v6.cell? ⟨b3, 2, none⟩ = some (.int .i64 c') ∧ v6.cell? ⟨b3, 3, none⟩ = some (.int .i64 d') ∧ v6.cell? ⟨b3, 4, none⟩ = some (.slice O4' On4' Oc4') ∧ v6.cell? ⟨b3, 5, none⟩ = some (.slice O5' On5' Oc5') ∧ v6.cell? ⟨b5, 0, none⟩ = some (.int .i64 a) ∧ v6.cell? ⟨b5, 1, none⟩ = some (.int .i64 b) ∧ v6.cell? ⟨b5, 2, none⟩ = some (.int .i64 c) ∧ v6.cell? ⟨b5, 3, none⟩ = some (.int .i64 d) ∧ v6.cell? ⟨b5, 4, none⟩ = some (.slice W4' Wn4' Wc4') ∧ v6.cell? ⟨b5, 5, none⟩ = some (.slice W5' Wn5' Wc5') ∧ v6.cell? ⟨b10, 0, none⟩ = some (.int .i64 a) ∧ v6.cell? ⟨b10, 1, none⟩ = some (.int .i64 b) ∧ v6.cell? ⟨b10, 2, none⟩ = some (.int .i64 c) ∧ v6.cell? ⟨b10, 3, none⟩ = some (.int .i64 d) ∧ v6.cell? ⟨b10, 4, none⟩ = some (.slice C4' Cn4' Cc4') ∧ v6.cell? ⟨b10, 5, none⟩ = some (.slice C5' Cn5' Cc5') from ⟨(z6.pick 13).cells 0, (z6.pick 13).cells 1, (z6.pick 13).cells 2, (z6.pick 13).cells 3, (z6.pick 13).cells 4, (z6.pick 13).cells 5, (z6.pick 12).cells 0, (z6.pick 12).cells 1, (z6.pick 12).cells 2, (z6.pick 12).cells 3, (z6.pick 12).cells 4, (z6.pick 12).cells 5, (z6.pick 11).cells 0, (z6.pick 11).cells 1, (z6.pick 11).cells 2, (z6.pick 11).cells 3, (z6.pick 11).cells 4, (z6.pick 11).cells 5, (z6.pick 10).cells 0, (z6.pick 10).cells 1, (z6.pick 10).cells 2, (z6.pick 10).cells 3, (z6.pick 10).cells 4, (z6.pick 10).cells 5⟩); have Q6 := Lib.hid z6; clear z6) | (go_at_call 20; (first | (with_reducible refine (sequ_s a b c d a b c d ps ps ts ts HL.out.1 HL.out.2.1 true (by simp) (show St w _ [RI (.slice W4' Wn4' Wc4') ps, RT (.slice W5' Wn5' Wc5') ts, RI (.slice F4' Fn4' Fc4') ps, RT (.slice F5' Fn5' Fc5') ts, RI (.slice S4' Sn4' Sc4') ps, RT (.slice S5' Sn5' Sc5') ts, RI (.slice O4' On4' Oc4') qs, RT (.slice O5' On5' Oc5') us, RI (.slice C4' Cn4' Cc4') ps, RT (.slice C5' Cn5' Cc5') ts, Go.Proofs.YtldpmeaibkpojaaR.blk b10 #[(.int .i64 a), (.int .i64 b), (.int .i64 c), (.int .i64 d), (.slice C4' Cn4' Cc4'), (.slice C5' Cn5' Cc5')] tSp, Go.Proofs.YtldpmeaibkpojaaR.blk b5 #[(.int .i64 a), (.int .i64 b), (.int .i64 c), (.int .i64 d), (.slice W4' Wn4' Wc4'), (.slice W5' Wn5' Wc5')] tSp, Go.Proofs.YtldpmeaibkpojaaR.blk b3 #[(.int .i64 a'), (.int .i64 b'), (.int .i64 c'), (.int .i64 d'), (.slice O4' On4' Oc4'), (.slice O5' On5' Oc5')] tSp, Go.Proofs.YtldpmeaibkpojaaR.blk b2 #[(.int .i64 a), (.int .i64 b), (.int .i64 c), (.int .i64 d), (.slice S4' Sn4' Sc4'), (.slice S5' Sn5' Sc5')] tSp] from ((((Q6.out).pick 1).pick 1).pick 7).pick 7)).mono ?_) | (with_reducible refine (sequ_s a b c d a b c d ps ps ts ts HL.out.1 HL.out.2.1 true (by simp) (show St w _ [RI (.slice W4' Wn4' Wc4') ps, RT (.slice W5' Wn5' Wc5') ts, RI (.slice F4' Fn4' Fc4') ps, RT (.slice F5' Fn5' Fc5') ts, RI (.slice S4' Sn4' Sc4') ps, RT (.slice S5' Sn5' Sc5') ts, RI (.slice O4' On4' Oc4') qs, RT (.slice O5' On5' Oc5') us, RI (.slice C4' Cn4' Cc4') ps, RT (.slice C5' Cn5' Cc5') ts, Go.Proofs.YtldpmeaibkpojaaR.blk b10 #[(.int .i64 a), (.int .i64 b), (.int .i64 c), (.int .i64 d), (.slice C4' Cn4' Cc4'), (.slice C5' Cn5' Cc5')] tSp, Go.Proofs.YtldpmeaibkpojaaR.blk b5 #[(.int .i64 a), (.int .i64 b), (.int .i64 c), (.int .i64 d), (.slice W4' Wn4' Wc4'), (.slice W5' Wn5' Wc5')] tSp, Go.Proofs.YtldpmeaibkpojaaR.blk b3 #[(.int .i64 a'), (.int .i64 b'), (.int .i64 c'), (.int .i64 d'), (.slice O4' On4' Oc4'), (.slice O5' On5' Oc5')] tSp, Go.Proofs.YtldpmeaibkpojaaR.blk b2 #[(.int .i64 a), (.int .i64 b), (.int .i64 c), (.int .i64 d), (.slice S4' Sn4' Sc4'), (.slice S5' Sn5' Sc5')] tSp] from ((((Q6.out.drew).pick 1).pick 1).pick 7).pick 7)).mono ?_)); rintro e_ v7 ⟨rfl, z7⟩; have K7 := Lib.hid (show v7.cell? ⟨b2, 0, none⟩ = some (.int .i64 a) ∧ v7.cell? ⟨b2, 1, none⟩ = some (.int .i64 b) ∧ v7.cell? ⟨b2, 2, none⟩ = some (.int .i64 c) ∧ v7.cell? ⟨b2, 3, none⟩ = some (.int .i64 d) ∧ v7.cell? ⟨b2, 4, none⟩ = some (.slice S4' Sn4' Sc4') ∧ v7.cell? ⟨b2, 5, none⟩ = some (.slice S5' Sn5' Sc5') ∧ v7.cell? ⟨b3, 0, none⟩ = some (.int .i64 a') ∧ v7.cell? ⟨b3, 1, none⟩ = some (.int .i64 b') ∧ v7.cell? ⟨b3, 2, none⟩ = some (.int .i64 c') ∧ v7.cell? ⟨b3, 3, none⟩ = some (.int .i64 d') ∧ v7.cell? ⟨b3, 4, none⟩ = some (.slice O4' On4' Oc4') ∧ v7.cell? ⟨b3, 5, none⟩ = some (.slice O5' On5' Oc5') ∧ v7.cell? ⟨b5, 0, none⟩ = some (.int .i64 a) ∧ v7.cell? ⟨b5, 1, none⟩ = some (.int .i64 b) ∧ v7.cell? ⟨b5, 2, none⟩ = some (.int .i64 c) ∧ v7.cell? ⟨b5, 3, none⟩ = some (.int .i64 d) ∧ v7.cell? ⟨b5, 4, none⟩ = some (.slice W4' Wn4' Wc4') ∧ v7.cell? ⟨b5, 5, none⟩ = some (.slice W5' Wn5' Wc5') ∧ v7.cell? ⟨b10, 0, none⟩ = some (.int .i64 a) ∧ v7.cell? ⟨b10, 1, none⟩ = some (.int .i64 b) ∧ v7.cell? ⟨b10, 2, none⟩ = some (.int .i64 c) ∧ v7.cell? ⟨b10, 3, none⟩ = some (.int .i64 d) ∧ v7.cell? ⟨b10, 4, none⟩ = some (.slice C4' Cn4' Cc4') ∧ v7.cell? ⟨b10, 5, none⟩ = some (.slice C5' Cn5' Cc5') from ⟨(z7.pick 13).cells 0, (z7.pick 13).cells 1, (z7.pick 13).cells 2, (z7.pick 13).cells 3, (z7.pick 13).cells 4, (z7.pick 13).cells 5, (z7.pick 12).cells 0, (z7.pick 12).cells 1, (z7.pick 12).cells 2, (z7.pick 12).cells 3, (z7.pick 12).cells 4, (z7.pick 12).cells 5, (z7.pick 11).cells 0, (z7.pick 11).cells 1, (z7.pick 11).cells 2, (z7.pick 11).cells 3, (z7.pick 11).cells 4, (z7.pick 11).cells 5, (z7.pick 10).cells 0, (z7.pick 10).cells 1, (z7.pick 10).cells 2, (z7.pick 10).cells 3, (z7.pick 10).cells 4, (z7.pick 10).cells 5⟩); have Q7 := Lib.hid z7; clear z7))
  clear K0 Q0 K1 Q1 K2 Q2 K3 Q3 K4 Q4 K5 Q5 K6 Q6 K7
  have q13 : St w v7 [RI (.slice C4' Cn4' Cc4') ps, Go.Proofs.YtldpmeaibkpojaaR.blk b10 #[(.int .i64 a), (.int .i64 b), (.int .i64 c), (.int .i64 d), (.slice C4' Cn4' Cc4'), (.slice C5' Cn5' Cc5')] tSp, RT (.slice C5' Cn5' Cc5') ts, Go.Proofs.YtldpmeaibkpojaaR.blk b5 #[(.int .i64 a), (.int .i64 b), (.int .i64 c), (.int .i64 d), (.slice W4' Wn4' Wc4'), (.slice W5' Wn5' Wc5')] tSp, Go.Proofs.YtldpmeaibkpojaaR.blk b2 #[(.int .i64 a), (.int .i64 b), (.int .i64 c), (.int .i64 d), (.slice S4' Sn4' Sc4'), (.slice S5' Sn5' Sc5')] tSp, RI (.slice W4' Wn4' Wc4') ps, RT (.slice W5' Wn5' Wc5') ts, RI (.slice F4' Fn4' Fc4') ps, RT (.slice F5' Fn5' Fc5') ts, RI (.slice S4' Sn4' Sc4') ps, RT (.slice S5' Sn5' Sc5') ts, RI (.slice O4' On4' Oc4') qs, RT (.slice O5' On5' Oc5') us, Go.Proofs.YtldpmeaibkpojaaR.blk b3 #[(.int .i64 a'), (.int .i64 b'), (.int .i64 c'), (.int .i64 d'), (.slice O4' On4' Oc4'), (.slice O5' On5' Oc5')] tSp] := (((((Q7.out).pick 13).pick 12).pick 11).pick 12).pick 12
  obtain ⟨-, hn4, hl4⟩ := q13.rowKC
  obtain ⟨-, hn5, hl5⟩ := (q13.pick 2).rowKC
  clear Q7
  have u4 : St w v7 [loose 3 (ps.length * 1) (.slice C4' Cn4' Cc4'), Go.Proofs.YtldpmeaibkpojaaR.blk b10 #[(.int .i64 a), (.int .i64 b), (.int .i64 c), (.int .i64 d), (.slice C4' Cn4' Cc4'), (.slice C5' Cn5' Cc5')] tSp, RT (.slice C5' Cn5' Cc5') ts, Go.Proofs.YtldpmeaibkpojaaR.blk b5 #[(.int .i64 a), (.int .i64 b), (.int .i64 c), (.int .i64 d), (.slice W4' Wn4' Wc4'), (.slice W5' Wn5' Wc5')] tSp, Go.Proofs.YtldpmeaibkpojaaR.blk b2 #[(.int .i64 a), (.int .i64 b), (.int .i64 c), (.int .i64 d), (.slice S4' Sn4' Sc4'), (.slice S5' Sn5' Sc5')] tSp, RI (.slice W4' Wn4' Wc4') ps, RT (.slice W5' Wn5' Wc5') ts, RI (.slice F4' Fn4' Fc4') ps, RT (.slice F5' Fn5' Fc5') ts, RI (.slice S4' Sn4' Sc4') ps, RT (.slice S5' Sn5' Sc5') ts, RI (.slice O4' On4' Oc4') qs, RT (.slice O5' On5' Oc5') us, Go.Proofs.YtldpmeaibkpojaaR.blk b3 #[(.int .i64 a'), (.int .i64 b'), (.int .i64 c'), (.int .i64 d'), (.slice O4' On4' Oc4'), (.slice O5' On5' Oc5')] tSp] := q13.loosen
  clear q13
  have HN4 := Lib.hid (And.intro hn4 (show ps.length ≤ 20 by have := HL.out; omega))
  clear hn4 hl4
  go_wp2_with fail
  go_loopw [11] (fun v wr => ∃ i : Nat, v = .int .i64 i ∧ i ≤ ps.length ∧ St w wr [loose 3 (ps.length * 1) (.slice C4' Cn4' Cc4'), Go.Proofs.YtldpmeaibkpojaaR.blk b10 #[(.int .i64 a), (.int .i64 b), (.int .i64 c), (.int .i64 d), (.slice C4' Cn4' Cc4'), (.slice C5' Cn5' Cc5')] tSp, RT (.slice C5' Cn5' Cc5') ts, Go.Proofs.YtldpmeaibkpojaaR.blk b5 #[(.int .i64 a), (.int .i64 b), (.int .i64 c), (.int .i64 d), (.slice W4' Wn4' Wc4'), (.slice W5' Wn5' Wc5')] tSp, Go.Proofs.YtldpmeaibkpojaaR.blk b2 #[(.int .i64 a), (.int .i64 b), (.int .i64 c), (.int .i64 d), (.slice S4' Sn4' Sc4'), (.slice S5' Sn5' Sc5')] tSp, RI (.slice W4' Wn4' Wc4') ps, RT (.slice W5' Wn5' Wc5') ts, RI (.slice F4' Fn4' Fc4') ps, RT (.slice F5' Fn5' Fc5') ts, RI (.slice S4' Sn4' Sc4') ps, RT (.slice S5' Sn5' Sc5') ts, RI (.slice O4' On4' Oc4') qs, RT (.slice O5' On5' Oc5') us, Go.Proofs.YtldpmeaibkpojaaR.blk b3 #[(.int .i64 a'), (.int .i64 b'), (.int .i64 c'), (.int .i64 d'), (.slice O4' On4' Oc4'), (.slice O5' On5' Oc5')] tSp]) (fun v _ => ps.length - (intOf v).toNat)
  case atStart => exact ⟨0, rfl, by omega, u4⟩
  case round =>
    clear u4
    obtain ⟨i, rfl, hi, y⟩ := hrel
    have hcb := (y.pick 1).cells
    have hi0 : (0 : Int) ≤ (i : Int) := by omega
    by_cases hlt : i < ps.length
    · obtain ⟨g, rfl, hs, hf, y2⟩ := y.lset i (by omega) (.int .i64 (-1))
      obtain ⟨v9, hv⟩ := Option.isSome_iff_exists.1 hs
      have hi3 : (i : Int) < (Cn4' : Int) := by have := HN4.out; omega
      have hi4 : (i : Int) < 60 := by have := HN4.out; omega
      have HJ := Lib.hid hlt
      clear y hs hlt hi
      go_wp2_with fail
      all_goals go_roundw
      all_goals first | exact ⟨i + 1, by go_num, by have := HJ.out; omega, y2⟩ | (have := HJ.out; simp [intOf]; omega)
    · have hi3 : ¬ (i : Int) < (Cn4' : Int) := by have := HN4.out; omega
      clear hlt hi
      have q14 : St w wr [RT (.slice C5' Cn5' Cc5') ts, Go.Proofs.YtldpmeaibkpojaaR.blk b10 #[(.int .i64 a), (.int .i64 b), (.int .i64 c), (.int .i64 d), (.slice C4' Cn4' Cc4'), (.slice C5' Cn5' Cc5')] tSp, loose 3 (ps.length * 1) (.slice C4' Cn4' Cc4'), Go.Proofs.YtldpmeaibkpojaaR.blk b5 #[(.int .i64 a), (.int .i64 b), (.int .i64 c), (.int .i64 d), (.slice W4' Wn4' Wc4'), (.slice W5' Wn5' Wc5')] tSp, Go.Proofs.YtldpmeaibkpojaaR.blk b2 #[(.int .i64 a), (.int .i64 b), (.int .i64 c), (.int .i64 d), (.slice S4' Sn4' Sc4'), (.slice S5' Sn5' Sc5')] tSp, RI (.slice W4' Wn4' Wc4') ps, RT (.slice W5' Wn5' Wc5') ts, RI (.slice F4' Fn4' Fc4') ps, RT (.slice F5' Fn5' Fc5') ts, RI (.slice S4' Sn4' Sc4') ps, RT (.slice S5' Sn5' Sc5') ts, RI (.slice O4' On4' Oc4') qs, RT (.slice O5' On5' Oc5') us, Go.Proofs.YtldpmeaibkpojaaR.blk b3 #[(.int .i64 a'), (.int .i64 b'), (.int .i64 c'), (.int .i64 d'), (.slice O4' On4' Oc4'), (.slice O5' On5' Oc5')] tSp] := (((((y).pick 4).pick 4).pick 2).pick 3).pick 4
      clear y
      have u5 : St w wr [loose 49 (ts.length * 6) (.slice C5' Cn5' Cc5'), Go.Proofs.YtldpmeaibkpojaaR.blk b10 #[(.int .i64 a), (.int .i64 b), (.int .i64 c), (.int .i64 d), (.slice C4' Cn4' Cc4'), (.slice C5' Cn5' Cc5')] tSp, loose 3 (ps.length * 1) (.slice C4' Cn4' Cc4'), Go.Proofs.YtldpmeaibkpojaaR.blk b5 #[(.int .i64 a), (.int .i64 b), (.int .i64 c), (.int .i64 d), (.slice W4' Wn4' Wc4'), (.slice W5' Wn5' Wc5')] tSp, Go.Proofs.YtldpmeaibkpojaaR.blk b2 #[(.int .i64 a), (.int .i64 b), (.int .i64 c), (.int .i64 d), (.slice S4' Sn4' Sc4'), (.slice S5' Sn5' Sc5')] tSp, RI (.slice W4' Wn4' Wc4') ps, RT (.slice W5' Wn5' Wc5') ts, RI (.slice F4' Fn4' Fc4') ps, RT (.slice F5' Fn5' Fc5') ts, RI (.slice S4' Sn4' Sc4') ps, RT (.slice S5' Sn5' Sc5') ts, RI (.slice O4' On4' Oc4') qs, RT (.slice O5' On5' Oc5') us, Go.Proofs.YtldpmeaibkpojaaR.blk b3 #[(.int .i64 a'), (.int .i64 b'), (.int .i64 c'), (.int .i64 d'), (.slice O4' On4' Oc4'), (.slice O5' On5' Oc5')] tSp] := q14.loosen
      clear q14
      have HN5 := Lib.hid (And.intro hn5 (show ts.length ≤ 20 by have := HL.out; omega))
      clear hn5 hl5
      go_wp2_with fail
      go_loopw [12] (fun v wr => ∃ i : Nat, v = .int .i64 i ∧ i ≤ ts.length ∧ St w wr [loose 49 (ts.length * 6) (.slice C5' Cn5' Cc5'), Go.Proofs.YtldpmeaibkpojaaR.blk b10 #[(.int .i64 a), (.int .i64 b), (.int .i64 c), (.int .i64 d), (.slice C4' Cn4' Cc4'), (.slice C5' Cn5' Cc5')] tSp, loose 3 (ps.length * 1) (.slice C4' Cn4' Cc4'), Go.Proofs.YtldpmeaibkpojaaR.blk b5 #[(.int .i64 a), (.int .i64 b), (.int .i64 c), (.int .i64 d), (.slice W4' Wn4' Wc4'), (.slice W5' Wn5' Wc5')] tSp, Go.Proofs.YtldpmeaibkpojaaR.blk b2 #[(.int .i64 a), (.int .i64 b), (.int .i64 c), (.int .i64 d), (.slice S4' Sn4' Sc4'), (.slice S5' Sn5' Sc5')] tSp, RI (.slice W4' Wn4' Wc4') ps, RT (.slice W5' Wn5' Wc5') ts, RI (.slice F4' Fn4' Fc4') ps, RT (.slice F5' Fn5' Fc5') ts, RI (.slice S4' Sn4' Sc4') ps, RT (.slice S5' Sn5' Sc5') ts, RI (.slice O4' On4' Oc4') qs, RT (.slice O5' On5' Oc5') us, Go.Proofs.YtldpmeaibkpojaaR.blk b3 #[(.int .i64 a'), (.int .i64 b'), (.int .i64 c'), (.int .i64 d'), (.slice O4' On4' Oc4'), (.slice O5' On5' Oc5')] tSp]) (fun v _ => ts.length - (intOf v).toNat)
      case atStart => exact ⟨0, rfl, by omega, u5⟩
      case round =>
        clear u5
        obtain ⟨i, rfl, hi, y⟩ := hrel
        have hcb := (y.pick 1).cells
        have hi0 : (0 : Int) ≤ (i : Int) := by omega
        by_cases hlt : i < ts.length
        · obtain ⟨g, rfl, hs, hf, y2⟩ := y.lset (i * 6 + 5) (by omega) (.int .i64 (-1))
          obtain ⟨v9, hv⟩ := Option.isSome_iff_exists.1 hs
          have hi3 : (i : Int) < (Cn5' : Int) := by have := HN5.out; omega
          have hi4 : (i : Int) < 60 := by have := HN5.out; omega
          have HJ := Lib.hid hlt
          clear y hs hlt hi
          go_wp2_with fail
          all_goals go_roundw
          all_goals first | exact ⟨i + 1, by go_num, by have := HJ.out; omega, y2⟩ | (have := HJ.out; simp [intOf]; omega)
        · have hi3 : ¬ (i : Int) < (Cn5' : Int) := by have := HN5.out; omega
          clear hlt hi
          have q15 : St w wr [RI (.slice W4' Wn4' Wc4') ps, RT (.slice W5' Wn5' Wc5') ts, RI (.slice S4' Sn4' Sc4') ps, RT (.slice S5' Sn5' Sc5') ts, Go.Proofs.YtldpmeaibkpojaaR.blk b5 #[(.int .i64 a), (.int .i64 b), (.int .i64 c), (.int .i64 d), (.slice W4' Wn4' Wc4'), (.slice W5' Wn5' Wc5')] tSp, Go.Proofs.YtldpmeaibkpojaaR.blk b2 #[(.int .i64 a), (.int .i64 b), (.int .i64 c), (.int .i64 d), (.slice S4' Sn4' Sc4'), (.slice S5' Sn5' Sc5')] tSp, loose 49 (ts.length * 6) (.slice C5' Cn5' Cc5'), Go.Proofs.YtldpmeaibkpojaaR.blk b10 #[(.int .i64 a), (.int .i64 b), (.int .i64 c), (.int .i64 d), (.slice C4' Cn4' Cc4'), (.slice C5' Cn5' Cc5')] tSp, loose 3 (ps.length * 1) (.slice C4' Cn4' Cc4'), RI (.slice F4' Fn4' Fc4') ps, RT (.slice F5' Fn5' Fc5') ts, RI (.slice O4' On4' Oc4') qs, RT (.slice O5' On5' Oc5') us, Go.Proofs.YtldpmeaibkpojaaR.blk b3 #[(.int .i64 a'), (.int .i64 b'), (.int .i64 c'), (.int .i64 d'), (.slice O4' On4' Oc4'), (.slice O5' On5' Oc5')] tSp] := ((((((y).pick 4).pick 4).pick 10).pick 10).pick 8).pick 8
          clear y
          have hca := (q15.pick 4).cells
          have hcd := (q15.pick 5).cells
          have Q := Lib.hid q15
          clear q15
          go_wp2_with fail
          refine (kequ_s a b c d a b c d ps ps ts ts HL.out.1 HL.out.2.1 true (by simp) Q.out).mono ?_
          rintro e_ wf ⟨rfl, x1⟩
          clear Q hca hcd
          go_wp2_with fail
          refine (sacristanlaw13_awake.calls true wf rfl).mono ?_
          rintro e_ wg ⟨rfl, hb⟩
          have x2 := x1.more hb
          clear x1 hb
          go_wp2
          go_ret
          exact ⟨rfl, x2.bel⟩
end Go.Proofs.YtldpmeaibkpojaaR
end

section
/- SpecMatches: the walk, as the row wants it. -/
namespace Go.Proofs.YtldpmeaibkpojaaR
open Go.RowKit Go.Proofs.YtldpmeaibkpojaaR Go.Proofs.YtldpmeaibkpojaaR.Ext Go.Proofs.YtldpmeaibkpojaaR.M Go.Proofs.YtldpmeaibkpojaaR.Sp Go.Proofs.YtldpmeaibkpojaaRW.PrintWords Go.Proofs.YtldpmeaibkpojaaRW.PrintLast
set_option linter.unusedVariables false
set_option maxHeartbeats 400000 in
theorem walk_SpecMatches (W : World) (a b c d : Int) (A4 : Option Addr) (c4 : Nat) (l4 : List Int) (A5 : Option Addr) (c5 : Nat) (l5 : List E49) (h0 : (Lit.int .i64 a).wf = true) (h1 : (Lit.int .i64 b).wf = true) (h2 : (Lit.int .i64 c).wf = true) (h3 : (Lit.int .i64 d).wf = true) (h4 : SL24 W A4 c4 l4) (h5 : SL25 W A5 c5 l5)
    (a' b' c' d' : Int) (A4' : Option Addr) (c4' : Nat) (l4' : List Int) (A5' : Option Addr) (c5' : Nat) (l5' : List E49) (h0' : (Lit.int .i64 a').wf = true) (h1' : (Lit.int .i64 b').wf = true) (h2' : (Lit.int .i64 c').wf = true) (h3' : (Lit.int .i64 d').wf = true) (h4' : SL24 W A4' c4' l4') (h5' : SL25 W A5' c5' l5') :
    Calls Try.prog 8 #[.agg #[.int .i64 a, .int .i64 b, .int .i64 c, .int .i64 d, .slice A4 l4.length c4, .slice A5 l5.length c5], .agg #[.int .i64 a', .int .i64 b', .int .i64 c', .int .i64 d', .slice A4' l4'.length c4', .slice A5' l5'.length c5']] W fun e w' => e = .returned (.bool true) ∧ Below W.heap.size W w' := by
  have q2 := readsT h5'
  have q1 := readsT h5
  exact match_c a b c d a' b' c' d' A4 A5 A4' A5' l4.length l5.length l4'.length l5'.length c4 c5 c4' c5' l4 l4' (l5.map toE) (l5'.map toE) W (readsI h4).1 rfl (readsI h4).2 q1.1 (by rw [List.length_map]) (by have := q1.2; rw [List.length_map] at this; exact this) (readsI h4').1 rfl (readsI h4').2 q2.1 (by rw [List.length_map]) (by have := q2.2; rw [List.length_map] at this; exact this)
end Go.Proofs.YtldpmeaibkpojaaR
end

section
/- The row of the law SpecMatches, out of its walk. By a program of this session (wip/rows.py). -/
namespace Go.Proofs.YtldpmeaibkpojaaR.specMatches
open Go.ChangeShapes Go.WideShapes Go.ChangeAt Go.RowKit
open Go.ChangeMaps (open_string shut_string)
set_option linter.unusedVariables false
theorem own : ownKnob Try.prog.godebug = none := by kernel_rfl
theorem laidOut : laidOutB Try.prog = true := by kernel_rfl
set_option maxRecDepth 100000 in
theorem lifted (os : Os) (started : os.Started) (H : Type) (enc : TypeId × Value → H) :
    ReturnsInHanded {} Try.checked os 8 .any (Rows.specMatchesSpec.pre6 enc Try.prog Try.f8 Rows.specMatchesRow.domain false) (Rows.specMatchesSpec.post enc Try.prog Try.f8 false true false false) := by
  refine returnsInHanded_of_change_sized (C := Try.checked) own started (by kernel_rfl) Try.func8
    (ChangeSpec.witness6 (enc := enc) (C := Try.checked) false ⟨#[], #[.agg #[.int .i64 0, .int .i64 0, .int .i64 0, .int .i64 0, .slice none 0 0, .slice none 0 0], .agg #[.int .i64 0, .int .i64 0, .int .i64 0, .int .i64 0, .slice none 0 0, .slice none 0 0]], []⟩ 8 (by kernel_rfl) (by kernel_rfl) (by kernel_rfl) (by kernel_rfl)) ?_
  intro W base args ds gs before hval0 hW hcnd hsz0 _
  have hsz : (DataW.weightsEach Try.prog (Try.f8.params.toList ++ Rows.specMatchesSpec.plain.varTypes Try.prog) (ds ++ gs)).all (· ≤ reachBytes) = true := hsz0
  have hval : ∀ (j : Nat) t v, Try.f8.params[j]? = some t → args[j]? = some v → Value.okWide Try.prog W .any base t v := hval0
  have hW' := hW
  obtain ⟨p, q, hA0, hV, rfl, hfz, hnd⟩ := hW
  have hA : DataW.TrodAll enc Try.prog W 0 (fun _ => true) true Try.f8.params.toList args.toList ds p := hA0
  rw [Try.params8] at hA hval hsz
  obtain ⟨v0, vs0, d0, ds0, p0, q0, hargs, rfl, rfl, h0, r0⟩ := trodAll_cons hA
  obtain ⟨v1, vs1, d1, ds1, p1, q1, rfl, rfl, rfl, h1, r1⟩ := trodAll_cons r0
  obtain ⟨rfl, rfl, rfl⟩ := trodAll_nil r1
  obtain rfl : args = #[v0, v1] := by cases args; simp_all
  obtain ⟨rfl, rfl⟩ := trodVars_none hV
  have k0 := h0
  have lt0 : ∀ x ∈ p0, x.block < W.heap.size := by obtain ⟨m, hm⟩ := k0; exact DataW.trod_lt m _ _ _ hm
  obtain ⟨fu0, hf0⟩ := h0
  obtain ⟨a0_0, a0_1, a0_2, a0_3, a0_4_A, a0_4_c, a0_4_l, a0_5_A, a0_5_c, a0_5_l, e0, a0_0_h, a0_1_h, a0_2_h, a0_3_h, a0_4_h, a0_5_h⟩ := op_27 hf0
  obtain rfl := agg_of e0 (by simp)
  have k1 := h1
  have lt1 : ∀ x ∈ p1, x.block < W.heap.size := by obtain ⟨m, hm⟩ := k1; exact DataW.trod_lt m _ _ _ hm
  obtain ⟨fu1, hf1⟩ := h1
  obtain ⟨a1_0, a1_1, a1_2, a1_3, a1_4_A, a1_4_c, a1_4_l, a1_5_A, a1_5_c, a1_5_l, e1, a1_0_h, a1_1_h, a1_2_h, a1_3_h, a1_4_h, a1_5_h⟩ := op_27 hf1
  obtain rfl := agg_of e1 (by simp)
  refine (walk_SpecMatches W a0_0 a0_1 a0_2 a0_3 a0_4_A a0_4_c a0_4_l a0_5_A a0_5_c a0_5_l a0_0_h a0_1_h a0_2_h a0_3_h a0_4_h a0_5_h a1_0 a1_1 a1_2 a1_3 a1_4_A a1_4_c a1_4_l a1_5_A a1_5_c a1_5_l a1_0_h a1_1_h a1_2_h a1_3_h a1_4_h a1_5_h).mono fun e W' ⟨he, bel⟩ => ?_
  subst he
  exact ⟨_, rfl, _, _, _, [], _, [], hW', trodAll_mk1 (shut_bool Try.underlying4 _), (trodAll_cons_mk (Below.trod laidOut (by kernel_rfl) (of_decide_eq_true (by kernel_rfl)) k0 bel lt0) (trodAll_cons_mk (Below.trod laidOut (by kernel_rfl) (of_decide_eq_true (by kernel_rfl)) k1 bel lt1) trodAll_mk0)), rfl, bel.frame _, fun h => by cases h⟩
theorem over : Rows.specMatchesRow.holds Try.pinned (OpenSpec.ofChange Rows.specMatchesSpec) :=
  OpenClaim.holds_of_wide 8 Try.f8 rfl rfl rfl rfl rfl rfl rfl ⟨rfl, rfl, rfl, rfl, rfl⟩ rfl rfl rfl rfl rfl (by kernel_rfl) Try.func8 (by kernel_rfl)
    (of_decide_eq_true (by kernel_rfl)) (by unfold Func.isWrapper; first | (rw [if_pos (by decide +kernel)]; kernel_rfl) | (rw [if_neg (by decide +kernel)]; exact ⟨rfl, rfl⟩))
    (fun os started H enc _ => lifted os started H enc)
#print axioms over
end Go.Proofs.YtldpmeaibkpojaaR.specMatches
namespace Go.Proofs.YtldpmeaibkpojaaR
/-- The row, under a short name, for the claim. -/
theorem specMatches_holds : Rows.SpecMatchesSaid := specMatches.over
end Go.Proofs.YtldpmeaibkpojaaR
end
