/- ref14.Check, CopyTokens, EqualTokens, and ref16's New, Fails, Sick. Printed by gen/probe8.py. -/
import Derived.Test.YtccehechhdndmaaBase
import Derived.Test.YtccehechhdndmaaSep
import Derived.Test.YtccehechhdndmaaSepB
import Derived.Test.YtccehechhdndmaaOpen
import Derived.Test.YtccehechhdndmaaProg
import Derived.Lib.Hide
import Derived.Test.YtccehechhdndmaaWWords
import Derived.Test.YtccehechhdndmaaPr0
import Derived.Test.YtccehechhdndmaaPr1
import Derived.Test.YtccehechhdndmaaPr2
import Derived.Test.YtccehechhdndmaaPr3
import Derived.Test.YtccehechhdndmaaPr4
import Derived.Test.YtccehechhdndmaaPr5
import Derived.Test.YtccehechhdndmaaPr7
namespace Go.Proofs.Ytccehechhdndmaa
open Go.RowKit Go.Proofs.YtccehechhdndmaaW.PrintWords
set_option linter.unusedSimpArgs false
set_option linter.unusedVariables false

set_option maxHeartbeats 1000000 in
theorem rcheck_ok (a b c : Int) (w : World) (h0 : 0 ≤ a) (k0 : a ≤ 2147483648) (h1 : 0 ≤ b) (k1 : b ≤ 3) (h2 : 1 ≤ c) (k2 : c ≤ 1099511627776) : Calls Try.prog 51 #[.agg #[.int .i64 a, .int .i64 b, .int .i64 c]] w fun e w' => e = .returned (.int .i64 0) ∧ Below w.heap.size w w' := by
  go_enter Try.func51, Try.ntmps51
  go_wp2
  go_returns
  exact ⟨rfl, by go_grown⟩
set_option maxHeartbeats 1000000 in
theorem rcheck_lo0 (a b c : Int) (w : World) (h0 : a < 0) : Calls Try.prog 51 #[.agg #[.int .i64 a, .int .i64 b, .int .i64 c]] w fun e w' => e = .returned (.int .i64 3) ∧ Below w.heap.size w w' := by
  go_enter Try.func51, Try.ntmps51
  go_wp2
  go_returns
  exact ⟨rfl, by go_grown⟩
set_option maxHeartbeats 1000000 in
theorem rcheck_hi0 (a b c : Int) (w : World) (h0 : 0 ≤ a) (k0 : 2147483648 < a) : Calls Try.prog 51 #[.agg #[.int .i64 a, .int .i64 b, .int .i64 c]] w fun e w' => e = .returned (.int .i64 3) ∧ Below w.heap.size w w' := by
  go_enter Try.func51, Try.ntmps51
  go_wp2
  go_returns
  exact ⟨rfl, by go_grown⟩
set_option maxHeartbeats 1000000 in
theorem rcheck_lo1 (a b c : Int) (w : World) (h0 : 0 ≤ a) (k0 : a ≤ 2147483648) (h1 : b < 0) : Calls Try.prog 51 #[.agg #[.int .i64 a, .int .i64 b, .int .i64 c]] w fun e w' => e = .returned (.int .i64 3) ∧ Below w.heap.size w w' := by
  go_enter Try.func51, Try.ntmps51
  go_wp2
  go_returns
  exact ⟨rfl, by go_grown⟩
set_option maxHeartbeats 1000000 in
theorem rcheck_hi1 (a b c : Int) (w : World) (h0 : 0 ≤ a) (k0 : a ≤ 2147483648) (h1 : 0 ≤ b) (k1 : 3 < b) : Calls Try.prog 51 #[.agg #[.int .i64 a, .int .i64 b, .int .i64 c]] w fun e w' => e = .returned (.int .i64 3) ∧ Below w.heap.size w w' := by
  go_enter Try.func51, Try.ntmps51
  go_wp2
  go_returns
  exact ⟨rfl, by go_grown⟩
set_option maxHeartbeats 1000000 in
theorem rcheck_lo2 (a b c : Int) (w : World) (h0 : 0 ≤ a) (k0 : a ≤ 2147483648) (h1 : 0 ≤ b) (k1 : b ≤ 3) (h2 : c < 1) : Calls Try.prog 51 #[.agg #[.int .i64 a, .int .i64 b, .int .i64 c]] w fun e w' => e = .returned (.int .i64 3) ∧ Below w.heap.size w w' := by
  go_enter Try.func51, Try.ntmps51
  go_wp2
  go_returns
  exact ⟨rfl, by go_grown⟩
set_option maxHeartbeats 1000000 in
theorem rcheck_hi2 (a b c : Int) (w : World) (h0 : 0 ≤ a) (k0 : a ≤ 2147483648) (h1 : 0 ≤ b) (k1 : b ≤ 3) (h2 : 1 ≤ c) (k2 : 1099511627776 < c) : Calls Try.prog 51 #[.agg #[.int .i64 a, .int .i64 b, .int .i64 c]] w fun e w' => e = .returned (.int .i64 3) ∧ Below w.heap.size w w' := by
  go_enter Try.func51, Try.ntmps51
  go_wp2
  go_returns
  exact ⟨rfl, by go_grown⟩
theorem rcheck_c (t : Tok) (w : World) : Calls Try.prog 51 #[tokV t] w fun e w' => e = .returned (.int .i64 (tokE t)) ∧ Below w.heap.size w w' := by
  obtain ⟨a, b, c⟩ := t
  by_cases h : tokOk ⟨a, b, c⟩ = true
  · rw [show tokE ⟨a, b, c⟩ = 0 by unfold tokE; rw [if_pos h]]
    simp [tokOk] at h
    exact rcheck_ok a b c w (by omega) (by omega) (by omega) (by omega) (by omega) (by omega)
  · rw [show tokE ⟨a, b, c⟩ = 3 by unfold tokE; rw [if_neg h]]
    simp [tokOk] at h
    by_cases h0 : a < 0
    · exact rcheck_lo0 a b c w h0
    by_cases k0 : 2147483648 < a
    · exact rcheck_hi0 a b c w (by omega) k0
    by_cases h1 : b < 0
    · exact rcheck_lo1 a b c w (by omega) (by omega) h1
    by_cases k1 : 3 < b
    · exact rcheck_hi1 a b c w (by omega) (by omega) (by omega) k1
    by_cases h2 : c < 1
    · exact rcheck_lo2 a b c w (by omega) (by omega) (by omega) (by omega) h2
    · exact rcheck_hi2 a b c w (by omega) (by omega) (by omega) (by omega) (by omega) (by omega)
theorem neq_tok (x t : Tok) (W : World) : (binOp .neq 32 (.agg #[.int .i64 x.a, .int .i64 x.b, .int .i64 x.c]) (.agg #[.int .i64 t.a, .int .i64 t.b, .int .i64 t.c])).run Try.prog W = .ok (.bool (!decide (x = t))) W := by
  obtain ⟨a, b, c⟩ := x
  obtain ⟨a', b', c'⟩ := t
  by_cases h0 : a = a'
  · by_cases h1 : b = b'
    · by_cases h2 : c = c' <;> simp [go_sem, h0, h1, h2, Try.underlying32, Try.underlying3, Result.andThen]
    · simp [go_sem, h0, h1, Try.underlying32, Try.underlying3, Result.andThen]
  · simp [go_sem, h0, Try.underlying32, Try.underlying3, Result.andThen]
/-- Tokens that lie in memory. -/
def TA (w : World) (A : Option Addr) (l : List Tok) : Prop := l = [] ∨ ∃ b off, A = some ⟨b, off, none⟩ ∧ b < w.heap.size ∧ ∀ i (hi : i < l.length), w.cell? ⟨b, off + i * 3, none⟩ = some (.int .i64 l[i].a) ∧ w.cell? ⟨b, off + i * 3 + 1, none⟩ = some (.int .i64 l[i].b) ∧ w.cell? ⟨b, off + i * 3 + 2, none⟩ = some (.int .i64 l[i].c)
theorem TA.of_sl {w : World} {A : Option Addr} {c : Nat} {l : List E32} (h : SL37 w A c l) : TA w A (l.map tk) := by
  rcases h.2.2 with rfl | ⟨b, off, e, hb, hc⟩
  · exact Or.inl rfl
  · refine Or.inr ⟨b, off, e, hb, fun i hi => ?_⟩
    have hi' : i < l.length := by simpa using hi
    obtain ⟨y0, -, y1, -, y2, -⟩ := hc i hi'
    rw [rd_get l i hi'] at y0 y1 y2
    simp only [List.getElem_map]
    exact ⟨y0, y1, y2⟩
theorem TA.below {w w' : World} {A : Option Addr} {l : List Tok} (h : TA w A l) (k : Below w.heap.size w w') : TA w' A l := by
  rcases h with h | ⟨b, off, e, hb, hc⟩
  · exact Or.inl h
  · exact Or.inr ⟨b, off, e, Nat.lt_of_lt_of_le hb k.size, fun i hi => ⟨(k.cell hb).trans (hc i hi).1, (k.cell hb).trans (hc i hi).2.1, (k.cell hb).trans (hc i hi).2.2⟩⟩
theorem TA.of_row {w : World} {base : Nat} {ok : Nat → Prop} {A : Option Addr} {n c : Nat} {l : List Tok} (h : kT.R 32 w base ok (.slice A n c) l) : TA w A l := by
  rcases rowT_get h with ⟨e, -⟩ | ⟨b, c', e, -, -, -, hb, -, hc⟩
  · exact Or.inl e
  · injection e with e1 e2 e3
    refine Or.inr ⟨b, 0, e1, hb, fun i hi => ?_⟩
    simpa using hc i hi
theorem TA.reads {w : World} {A : Option Addr} {l : List Tok} (h : TA w A l) (hm : l.length ≤ 9223372036854775807) : kT.C w A l.length l := by
  refine ⟨rfl, hm, fun h0 => ?_⟩
  obtain ⟨b, off, rfl, hb, hc⟩ := h.resolve_left (by rintro rfl; simp at h0)
  refine ⟨_, rfl, fun j p hj => ?_⟩
  obtain ⟨hj', rfl⟩ := List.getElem?_eq_some_iff.1 hj
  obtain ⟨y0, y1, y2⟩ := hc j hj'
  refine ⟨[.int .i64 l[j].a, .int .i64 l[j].b, .int .i64 l[j].c], rfl, kT.K_of_M (kT_mkM w 0 (fun _ => True) _), fun i u hu => ?_⟩
  have hz : (Addr.mk b off none).add (j * kT.sz + i) = ⟨b, off + j * 3 + i, none⟩ := by simp [Addr.add, show kT.sz = 3 from rfl, Nat.add_assoc]; try (intros; omega)
  rw [hz]
  match i, hu with
  | 0, hu => simp at hu; subst hu; simpa using y0
  | 1, hu => simp at hu; subst hu; exact y1
  | 2, hu => simp at hu; subst hu; exact y2
set_option maxHeartbeats 1000000 in
theorem copytok_c (A : Option Addr) (c n : Nat) (l : List Tok) (w : World) (h : TA w A l) (hl : l.length ≤ 100000) (hn : l.length = n) :
    Calls Try.prog 23 #[.slice A n c] w fun e w' => ∃ A1 c1, e = .returned (.slice A1 n c1) ∧ kT.R 32 w' w.heap.size (fun _ => True) (.slice A1 n c1) l ∧ Below w.heap.size w w' := by
  subst hn
  have HC := Lib.hid (h.reads (by omega))
  clear h
  go_enter Try.func23, Try.ntmps23
  go_wp2_with (at_builtin; refine Kd.R_append_rows kT (w0 := w) w.heap.size rfl _ _ 37 32 (.agg #[.int .i64 0, .int .i64 0, .int .i64 0]) 24 rfl Try.underlying37 infoT rfl (by decide) (by omega) (.slice none 0 0) ([] : List Tok) l A _ c (fun _ => True) (fun _ => False) rfl rfl (Kd.R_nil _ _ _ _ _) HC.out (fun x cs hx => by obtain rfl := kT_open hx; exact kT_mkM _ _ _ x) (fun _ h => h.elim) (fun _ _ => trivial) (by go_grown) (by simp) (by simp; omega) ?_; intro v1 w1 hR hB hg hat; clear hg hat)
  obtain ⟨A1, c1, rfl, -, -⟩ := Kd.R_reads hR
  rw [List.nil_append] at hR ⊢
  go_returns
  exact ⟨_, _, rfl, hR, hB⟩
set_option maxHeartbeats 1000000 in
theorem eqtok_c (A1 A2 : Option Addr) (c1 c2 n : Nat) (l : List Tok) (w : World) (h1 : TA w A1 l) (h2 : TA w A2 l) (hl : l.length ≤ 100000) (hn : l.length = n) :
    Calls Try.prog 26 #[.slice A1 n c1, .slice A2 n c2] w fun e w' => e = .returned (.bool true) ∧ Below w.heap.size w w' := by
  subst hn
  have H1 := Lib.hid h1
  have H2 := Lib.hid h2
  clear h1 h2
  go_enter Try.func26, Try.ntmps26
  go_wp2
  go_loopw [5] (fun i wr => ∃ n : Nat, i = .int .i64 n ∧ n ≤ l.length ∧ Below w.heap.size w wr) (fun i _ => l.length - (intOf i).toNat)
  case atStart => exact ⟨0, rfl, by omega, Below.refl _ _⟩
  case round =>
    obtain ⟨n, rfl, hn, hB⟩ := hrel
    by_cases m : n < l.length
    · obtain ⟨a, ao, rfl, ha, hca⟩ := H1.out.resolve_left (by rintro rfl; simp at m)
      obtain ⟨b, bo, rfl, hb, hcb⟩ := H2.out.resolve_left (by rintro rfl; simp at m)
      obtain ⟨x0, x1, x2⟩ := hca n m
      obtain ⟨y0, y1, y2⟩ := hcb n m
      clear hca hcb H1 H2
      generalize l[n] = v at *
      have z0 : wr.cell? ⟨a, ao + n * 3, none⟩ = _ := (hB.cell ha).trans x0
      have z1 : wr.cell? ⟨a, ao + n * 3 + 1, none⟩ = _ := (hB.cell ha).trans x1
      have z2 : wr.cell? ⟨a, ao + n * 3 + 2, none⟩ = _ := (hB.cell ha).trans x2
      have u0 : wr.cell? ⟨b, bo + n * 3, none⟩ = _ := (hB.cell hb).trans y0
      have u1 : wr.cell? ⟨b, bo + n * 3 + 1, none⟩ = _ := (hB.cell hb).trans y1
      have u2 : wr.cell? ⟨b, bo + n * 3 + 2, none⟩ = _ := (hB.cell hb).trans y2
      clear x0 x1 x2 y0 y1 y2
      have hk0 : (0 : Int) ≤ (n : Int) := by omega
      have hk1 : (n : Int) < (l.length : Int) := by omega
      have heq := neq_tok v v
      rw [show (!decide (v = v)) = false by simp] at heq
      go_wp2
      go_quiet (fail)
      have hB1 := below_drewN hB nq
      go_wp2
      all_goals go_roundw
      all_goals first | exact ⟨n + 1, by go_num, by omega, hB1⟩ | (simp [intOf]; omega)
    · have hnl : n = l.length := by omega
      subst hnl
      go_wp2
      go_returns
      exact ⟨rfl, hB⟩
/-! ### ref16 -/
def getC : List Cn → Tok → Int
  | [], _ => 0
  | c :: L, t => if c.t = t then c.n else getC L t
theorem getC_no {L : List Cn} {t : Tok} (h : t ∉ L.map (·.t)) : getC L t = 0 := by
  induction L with
  | nil => rfl
  | cons c L ih => simp at h; unfold getC; rw [if_neg (fun e => h.1 e.symm)]; exact ih (by simpa using h.2)
theorem getC_at {L : List Cn} {t : Tok} {k : Nat} (hk : k < L.length) (h : t ∉ (L.take k).map (·.t)) (he : L[k].t = t) : getC L t = L[k].n := by
  induction L generalizing k with
  | nil => simp at hk
  | cons c L ih =>
    unfold getC
    cases k with
    | zero => simp at he; simp [he]
    | succ k =>
      simp at h
      rw [if_neg (fun e => h.1 e.symm)]
      simp only [List.getElem_cons_succ] at he ⊢
      exact ih (by simpa using hk) (by simpa using h.2) he
theorem rnew_s {w0 w : World} {L : List HP} (h : St w0 w L) : Calls Try.prog 22 #[] w fun e w' => ∃ g, e = .returned (.pointer (some ⟨g, 0, none⟩)) ∧ St w0 w' (Go.Proofs.Ytccehechhdndmaa.blk g #[.slice none 0 0] 83 :: L) := by
  go_enter Try.func22, Try.ntmps22
  go_wp2
  go_returns
  exact ⟨_, rfl, h.alloc _ _⟩
set_option maxHeartbeats 2000000 in
theorem rfails_c (g : Nat) (v : Value) (L : List Cn) (t : Tok) (w : World) (hg : w.heap[g]? = some (.cells #[v] 83 (0, 0))) (hR : kC.R 87 w 0 (fun _ => True) v L) (hL : L.length ≤ 100000) :
    Calls Try.prog 30 #[.pointer (some ⟨g, 0, none⟩), tokV t] w fun e w' => e = .returned (.int .i64 (getC L t)) ∧ Below w.heap.size w w' := by
  have hgl := vlt hg
  rcases rowC_get hR with ⟨rfl, rfl⟩ | ⟨b, c, rfl, hc, -, -, hb, -, hcells⟩
  · clear hR
    simp only [tokV, getC]
    have hgc := vcell hg
    go_enter Try.func30, Try.ntmps30
    go_wp2
    refine wp_loop_rounds 1 ?_
    rw [rounds_succ]
    go_wp2
    go_returns
    exact ⟨rfl, by go_grown⟩
  · clear hR
    have HC := Lib.hid hcells
    have hg2 := Lib.hid hg
    clear hcells
    have hbox := vnew (W := w) (o := .cells #[.int .i64 t.a, .int .i64 t.b, .int .i64 t.c] 32)
    have hw1 : w.heap.size < (w.alloc (.cells #[.int .i64 t.a, .int .i64 t.b, .int .i64 t.c] 32)).heap.size := by simp
    have hBw : Below w.heap.size w (w.alloc (.cells #[.int .i64 t.a, .int .i64 t.b, .int .i64 t.c] 32)) := below_alloc (Below.refl _ _) _
    generalize hW1 : w.alloc (.cells #[.int .i64 t.a, .int .i64 t.b, .int .i64 t.c] 32) = W1 at hbox hw1 hBw
    have hc0 := vcell hg
    clear hg
    simp only [tokV]
    go_enter Try.func30, Try.ntmps30
    go_wp2
    go_loopw [5] (fun i wr => ∃ k : Nat, i = .int .i64 k ∧ k ≤ L.length ∧ t ∉ (L.take k).map (·.t) ∧ Below W1.heap.size W1 wr) (fun i _ => L.length - (intOf i).toNat)
    case atStart => exact ⟨0, rfl, by omega, by simp, by rw [← hW1]; exact Below.refl _ _⟩
    case round =>
      clear hc0
      obtain ⟨k, rfl, hk, hnot, hB⟩ := hrel
      have hB2 : Below w.heap.size w wr := below_then hBw hB
      have hcb := vcell (vbelow hbox hB)
      have hcg := vcell (vbelow hg2.out hB2)
      have hk0 : (0 : Int) ≤ (k : Int) := by omega
      by_cases m : k < L.length
      · obtain ⟨y0, y1, y2, y3⟩ := HC.out k m
        have z0 : wr.cell? ⟨b, k * 4, none⟩ = _ := (hB2.cell hb).trans y0
        have z1 : wr.cell? ⟨b, k * 4 + 1, none⟩ = _ := (hB2.cell hb).trans y1
        have z2 : wr.cell? ⟨b, k * 4 + 2, none⟩ = _ := (hB2.cell hb).trans y2
        have z3 : wr.cell? ⟨b, k * 4 + 3, none⟩ = _ := (hB2.cell hb).trans y3
        have hat := fun he => getC_at m hnot he
        have hx : L.take (k + 1) = L.take k ++ [L[k]] := by rw [List.take_succ_eq_append_getElem m]
        generalize L[k] = x at *
        clear y0 y1 y2 y3
        have hk1 : (k : Int) < (L.length : Int) := by omega
        have heq := eq_tok x.t t
        by_cases e : x.t = t
        · rw [show decide (x.t = t) = true by simp [e]] at heq
          have hr := hat e
          clear hat hx hnot hbox hg2 HC
          go_wp2
          go_quiet (fail)
          have hB3 := below_drewN hB2 nq
          go_wp2
          go_returns
          exact ⟨by rw [hr]; rfl, hB3⟩
        · rw [show decide (x.t = t) = false by simp [e]] at heq
          have hnot2 : t ∉ (L.take (k + 1)).map (·.t) := by rw [hx]; simp only [List.map_append, List.mem_append, not_or]; exact ⟨hnot, by simp; exact fun q => e q.symm⟩
          clear hat hx hnot
          go_wp2
          go_quiet (fail)
          have hB3 := below_drewN hB nq
          go_wp2
          all_goals go_roundw
          all_goals first | exact ⟨k + 1, by go_num, by omega, hnot2, hB3⟩ | (simp [intOf]; omega)
      · have hkl : k = L.length := by omega
        subst hkl
        rw [List.take_length] at hnot
        have hno := getC_no hnot
        clear hnot
        go_wp2
        go_returns
        exact ⟨by rw [hno]; rfl, hB2⟩
def sickI (n k : Int) : Bool := decide (0 < k) && decide (k ≤ n)
set_option maxHeartbeats 1000000 in
theorem rsick_c (g : Nat) (v : Value) (L : List Cn) (t : Tok) (k : Int) (w : World) (hg : w.heap[g]? = some (.cells #[v] 83 (0, 0))) (hR : kC.R 87 w 0 (fun _ => True) v L) (hL : L.length ≤ 100000) :
    Calls Try.prog 32 #[.pointer (some ⟨g, 0, none⟩), tokV t, .int .i64 k] w fun e w' => e = .returned (.bool (sickI (getC L t) k)) ∧ Below w.heap.size w w' := by
  have hB0 : Below w.heap.size w (w.alloc (.cells #[.int .i64 t.a, .int .i64 t.b, .int .i64 t.c] 32)) := below_alloc (Below.refl _ _) _
  have hf := rfails_c g v L t _ (vbelow hg hB0) (Kd.R_below hR hB0) hL
  simp only [tokV] at hf ⊢
  by_cases hk : 0 < k
  · rw [show sickI (getC L t) k = decide (k ≤ getC L t) by unfold sickI; simp [hk]]
    generalize getC L t = m at *
    clear hg hR
    go_enter Try.func32, Try.ntmps32
    go_wp2_with fail
    refine hf.mono ?_
    rintro e_ w1 ⟨rfl, hb⟩
    have hB1 := below_then hB0 hb
    go_wp2
    go_returns
    exact ⟨by first | rfl | simp, hB1⟩
  · rw [show sickI (getC L t) k = false by unfold sickI; simp [hk]]
    have hk2 : decide (0 < k) = false := by simpa using hk
    clear hg hR hf
    go_enter Try.func32, Try.ntmps32
    go_wp2
    go_returns
    exact ⟨by first | rfl | simp, hB0⟩
end Go.Proofs.Ytccehechhdndmaa
