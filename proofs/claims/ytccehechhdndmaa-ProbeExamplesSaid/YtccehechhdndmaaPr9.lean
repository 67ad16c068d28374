/- ref16's Tell and Keep over objects. Printed by gen/probe9.py. -/
import Derived.Test.YtccehechhdndmaaBase
import Derived.Test.YtccehechhdndmaaSep
import Derived.Test.YtccehechhdndmaaSepB
import Derived.Test.YtccehechhdndmaaOpen
import Derived.Test.YtccehechhdndmaaProg
import Derived.Lib.Hide
import Derived.Test.YtccehechhdndmaaWWords
import Derived.Test.YtccehechhdndmaaPr0
import Derived.Test.YtccehechhdndmaaPr1
import Derived.Test.YtccehechhdndmaaPr2
import Derived.Test.YtccehechhdndmaaPr3
import Derived.Test.YtccehechhdndmaaPr4
import Derived.Test.YtccehechhdndmaaPr5
import Derived.Test.YtccehechhdndmaaPr7
import Derived.Test.YtccehechhdndmaaPr8
namespace Go.Proofs.Ytccehechhdndmaa
open Go.RowKit Go.Proofs.YtccehechhdndmaaW.PrintWords
set_option linter.unusedSimpArgs false
set_option linter.unusedVariables false

abbrev RH (g : Nat) (v : Value) : HP := Go.Proofs.Ytccehechhdndmaa.blk g #[v] 83
def noT (L : List Cn) (t : Tok) : List Cn := L.filter (fun c => !decide (c.t = t))
theorem noT_snoc (L : List Cn) (t : Tok) (x : Cn) : noT (L ++ [x]) t = if x.t = t then noT L t else noT L t ++ [x] := by
  unfold noT; by_cases e : x.t = t <;> simp [e]
theorem noT_len (L : List Cn) (t : Tok) : (noT L t).length ≤ L.length := List.length_filter_le _ _
theorem rowC_at {w0 w : World} {L : List HP} {v : Value} {xs : List Cn} (h : St w0 w (rowC v xs :: L)) : kC.R 87 w 0 (fun _ => True) v xs := by obtain ⟨S, hR, -⟩ := h.hd; exact hR
theorem rtell_no (g : Nat) (t : Tok) (ok : Bool) (w : World) (hv : tokOk t = false) : Calls Try.prog 28 #[.pointer (some ⟨g, 0, none⟩), tokV t, .bool ok] w fun e w' => e = .returned (.int .i64 3) ∧ Below w.heap.size w w' := by
  have hE : tokE t = 3 := by unfold tokE; rw [hv]; rfl
  have hch := rcheck_c t
  rw [hE] at hch
  clear hE hv
  simp only [tokV] at hch ⊢
  go_enter Try.func28, Try.ntmps28
  go_wp2_with fail
  refine (hch _).mono ?_
  rintro e_ w1 ⟨rfl, hb⟩
  have hB := below_then (w := w) (by go_grown) hb
  go_wp2
  go_returns
  exact ⟨rfl, hB⟩
set_option maxHeartbeats 4000000 in
theorem rtell_true {w0 w : World} {Ls : List HP} {g : Nat} {v : Value} {L : List Cn} (t : Tok) (h : St w0 w (RH g v :: rowC v L :: Ls)) (hv : tokOk t = true) (hL : L.length ≤ 10000) (h0 : 0 ≤ getC L t) (h1 : getC L t < 1099511627776) :
    Calls Try.prog 28 #[.pointer (some ⟨g, 0, none⟩), tokV t, .bool true] w fun e w' => e = .returned (.int .i64 0) ∧ ∃ v', St w0 w' (RH g v' :: rowC v' (noT L t ++ [⟨t, 0⟩]) :: Ls) := by
  have hE : tokE t = 0 := by unfold tokE; rw [hv]; rfl
  have hch := rcheck_c t
  rw [hE] at hch
  clear hE hv
  obtain ⟨A, cp, rfl, -, -⟩ := Kd.R_reads (rowC_at (h.pick 1))
  have a0 := h.alloc #[.int .i64 t.a, .int .i64 t.b, .int .i64 t.c] 32
  clear h
  simp only [tokV] at hch ⊢
  go_enter Try.func28, Try.ntmps28
  go_wp2_with fail
  refine (hch _).mono ?_
  rintro e_ w1 ⟨rfl, hb⟩
  have a1 := a0.more hb
  clear hch hb a0
  have cX := a1.cells
  have cG := (a1.pick 1).cells
  have hf := rfails_c g (.slice A L.length cp) L t w1 ((a1.pick 1).at0) (rowC_at (a1.pick 2)) (by omega)
  simp only [tokV] at hf
  go_wp2_with fail
  refine hf.mono ?_
  rintro e_ w2 ⟨rfl, hb⟩
  have a2 := a1.more hb
  clear hf hb a1 cX cG
  generalize hm_ : getC L t = m at *
  go_wp2_with fail
  have a3 := rowC_nil a2
  clear a2
  go_loopw [8, 9] (fun u iv wr => ∃ i : Nat, iv = .int .i64 i ∧ i ≤ L.length ∧ St w0 wr (rowC u (noT (L.take i) t) :: Go.Proofs.Ytccehechhdndmaa.blk w.heap.size #[.int .i64 t.a, .int .i64 t.b, .int .i64 t.c] 32 :: RH g (.slice A L.length cp) :: rowC (.slice A L.length cp) L :: Ls)) (fun _ iv _ => 10000 - (intOf iv).toNat)
  case atStart => exact ⟨0, rfl, by omega, a3⟩
  case round =>
    clear a3
    obtain ⟨i, rfl, hi, hs⟩ := hrel
    have cX := (hs.pick 1).cells
    have cG := (hs.pick 2).cells
    have hk0 : (0 : Int) ≤ (i : Int) := by omega
    by_cases mi : i < L.length
    · rcases rowC_get (rowC_at (hs.pick 3)) with ⟨rfl, -⟩ | ⟨b, c, e, -, -, -, hb, -, hcells⟩
      · simp at mi
      injection e with e1 e2 e3
      subst e1
      clear e2 e3
      obtain ⟨z0, z1, z2, z3⟩ := hcells i mi
      clear hcells
      have hx : noT (L.take (i + 1)) t = if L[i].t = t then noT (L.take i) t else noT (L.take i) t ++ [L[i]] := by rw [List.take_succ_eq_append_getElem mi, noT_snoc]
      generalize L[i] = x at *
      have hlen : (noT (L.take i) t).length ≤ 10000 := by have := noT_len (L.take i) t; simp at this; omega
      have hk1 : (i : Int) < (L.length : Int) := by omega
      have heq := neq_tok x.t t
      by_cases e : x.t = t
      · rw [show (!decide (x.t = t)) = false by simp [e]] at heq
        rw [if_pos e] at hx
        rw [← hx] at hs
        clear hx
        go_wp2
        go_quiet (fail)
        have hs1 := hs.more (below_drewN (Below.refl _ _) nq)
        clear hs
        go_wp2
        all_goals go_roundw
        all_goals first | exact ⟨i + 1, by go_num, by omega, hs1⟩ | (simp [intOf]; omega)
      · rw [show (!decide (x.t = t)) = true by simp [e]] at heq
        rw [if_neg e] at hx
        have y0 := fun nq => show (wr.drewN nq).cell? ⟨b, i * 4, none⟩ = _ from z0
        have y1 := fun nq => show (wr.drewN nq).cell? ⟨b, i * 4 + 1, none⟩ = _ from z1
        have y2 := fun nq => show (wr.drewN nq).cell? ⟨b, i * 4 + 2, none⟩ = _ from z2
        have y3 := fun nq => show (wr.drewN nq).cell? ⟨b, i * 4 + 3, none⟩ = _ from z3
        have yG := fun nq j => show (wr.drewN nq).cell? ⟨g, j, none⟩ = _ from cG j
        have hs1 := fun nq => hs.more (below_drewN (Below.refl _ _) nq)
        clear hs
        go_wp2
        go_quiet (fail)
        have hs2 := hs1 nq
        replace y0 := y0 nq
        replace y1 := y1 nq
        replace y2 := y2 nq
        replace y3 := y3 nq
        replace yG := yG nq
        clear hs1 z0 z1 z2 z3 cG cX heq
        generalize wr.drewN nq = wq at *
        go_wp2_with (at_builtin; refine rowC_append _ _ _ _ x hs2 rfl rfl rfl rfl (by omega) ?_; intro v1 w9 q9)
        all_goals rw [← hx] at q9
        all_goals clear hs2 hx
        all_goals go_roundw
        all_goals first | exact ⟨i + 1, by go_num, by omega, q9⟩ | (simp [intOf]; omega)
    · have hil : i = L.length := by omega
      subst i
      rw [List.take_length] at hs
      have hlen := noT_len L t
      go_wp2_with (at_builtin; refine rowC_append _ _ _ _ ⟨t, 0⟩ hs rfl rfl rfl rfl (by omega) ?_; intro v1 w9 q9; obtain ⟨A2, c2, rfl, -, -⟩ := Kd.R_reads (rowC_at q9); have hc9 := (q9.pick 2).cells; have hf9 := (q9.pick 2).free)
      go_returns
      have q1 := (q9.pick 2).setb (cs' := #[.slice A2 (noT L t ++ [(⟨t, 0⟩ : Cn)]).length c2]) 0 _ rfl
      rw [show (noT L t ++ [(⟨t, 0⟩ : Cn)]).length = (noT L t).length + 1 by simp] at q1
      have q2 : St w0 _ (RH g (.slice A2 ((noT L t).length + 1) c2) :: rowC (.slice A2 ((noT L t).length + 1) c2) (noT L t ++ [⟨t, 0⟩]) :: Ls) := ((q1.pick 2).drop.pick 2).drop
      exact ⟨rfl, _, q2⟩
set_option maxHeartbeats 4000000 in
theorem rtell_false {w0 w : World} {Ls : List HP} {g : Nat} {v : Value} {L : List Cn} (t : Tok) (h : St w0 w (RH g v :: rowC v L :: Ls)) (hv : tokOk t = true) (hL : L.length ≤ 10000) (h0 : 0 ≤ getC L t) (h1 : getC L t < 1099511627776) :
    Calls Try.prog 28 #[.pointer (some ⟨g, 0, none⟩), tokV t, .bool false] w fun e w' => e = .returned (.int .i64 0) ∧ ∃ v', St w0 w' (RH g v' :: rowC v' (noT L t ++ [⟨t, (getC L t + 1)⟩]) :: Ls) := by
  have hE : tokE t = 0 := by unfold tokE; rw [hv]; rfl
  have hch := rcheck_c t
  rw [hE] at hch
  clear hE hv
  obtain ⟨A, cp, rfl, -, -⟩ := Kd.R_reads (rowC_at (h.pick 1))
  have a0 := h.alloc #[.int .i64 t.a, .int .i64 t.b, .int .i64 t.c] 32
  clear h
  simp only [tokV] at hch ⊢
  go_enter Try.func28, Try.ntmps28
  go_wp2_with fail
  refine (hch _).mono ?_
  rintro e_ w1 ⟨rfl, hb⟩
  have a1 := a0.more hb
  clear hch hb a0
  have cX := a1.cells
  have cG := (a1.pick 1).cells
  have hf := rfails_c g (.slice A L.length cp) L t w1 ((a1.pick 1).at0) (rowC_at (a1.pick 2)) (by omega)
  simp only [tokV] at hf
  go_wp2_with fail
  refine hf.mono ?_
  rintro e_ w2 ⟨rfl, hb⟩
  have a2 := a1.more hb
  clear hf hb a1 cX cG
  generalize hm_ : getC L t = m at *
  go_wp2_with fail
  have a3 := rowC_nil a2
  clear a2
  go_loopw [8, 9] (fun u iv wr => ∃ i : Nat, iv = .int .i64 i ∧ i ≤ L.length ∧ St w0 wr (rowC u (noT (L.take i) t) :: Go.Proofs.Ytccehechhdndmaa.blk w.heap.size #[.int .i64 t.a, .int .i64 t.b, .int .i64 t.c] 32 :: RH g (.slice A L.length cp) :: rowC (.slice A L.length cp) L :: Ls)) (fun _ iv _ => 10000 - (intOf iv).toNat)
  case atStart => exact ⟨0, rfl, by omega, a3⟩
  case round =>
    clear a3
    obtain ⟨i, rfl, hi, hs⟩ := hrel
    have cX := (hs.pick 1).cells
    have cG := (hs.pick 2).cells
    have hk0 : (0 : Int) ≤ (i : Int) := by omega
    by_cases mi : i < L.length
    · rcases rowC_get (rowC_at (hs.pick 3)) with ⟨rfl, -⟩ | ⟨b, c, e, -, -, -, hb, -, hcells⟩
      · simp at mi
      injection e with e1 e2 e3
      subst e1
      clear e2 e3
      obtain ⟨z0, z1, z2, z3⟩ := hcells i mi
      clear hcells
      have hx : noT (L.take (i + 1)) t = if L[i].t = t then noT (L.take i) t else noT (L.take i) t ++ [L[i]] := by rw [List.take_succ_eq_append_getElem mi, noT_snoc]
      generalize L[i] = x at *
      have hlen : (noT (L.take i) t).length ≤ 10000 := by have := noT_len (L.take i) t; simp at this; omega
      have hk1 : (i : Int) < (L.length : Int) := by omega
      have heq := neq_tok x.t t
      by_cases e : x.t = t
      · rw [show (!decide (x.t = t)) = false by simp [e]] at heq
        rw [if_pos e] at hx
        rw [← hx] at hs
        clear hx
        go_wp2
        go_quiet (fail)
        have hs1 := hs.more (below_drewN (Below.refl _ _) nq)
        clear hs
        go_wp2
        all_goals go_roundw
        all_goals first | exact ⟨i + 1, by go_num, by omega, hs1⟩ | (simp [intOf]; omega)
      · rw [show (!decide (x.t = t)) = true by simp [e]] at heq
        rw [if_neg e] at hx
        have y0 := fun nq => show (wr.drewN nq).cell? ⟨b, i * 4, none⟩ = _ from z0
        have y1 := fun nq => show (wr.drewN nq).cell? ⟨b, i * 4 + 1, none⟩ = _ from z1
        have y2 := fun nq => show (wr.drewN nq).cell? ⟨b, i * 4 + 2, none⟩ = _ from z2
        have y3 := fun nq => show (wr.drewN nq).cell? ⟨b, i * 4 + 3, none⟩ = _ from z3
        have yG := fun nq j => show (wr.drewN nq).cell? ⟨g, j, none⟩ = _ from cG j
        have hs1 := fun nq => hs.more (below_drewN (Below.refl _ _) nq)
        clear hs
        go_wp2
        go_quiet (fail)
        have hs2 := hs1 nq
        replace y0 := y0 nq
        replace y1 := y1 nq
        replace y2 := y2 nq
        replace y3 := y3 nq
        replace yG := yG nq
        clear hs1 z0 z1 z2 z3 cG cX heq
        generalize wr.drewN nq = wq at *
        go_wp2_with (at_builtin; refine rowC_append _ _ _ _ x hs2 rfl rfl rfl rfl (by omega) ?_; intro v1 w9 q9)
        all_goals rw [← hx] at q9
        all_goals clear hs2 hx
        all_goals go_roundw
        all_goals first | exact ⟨i + 1, by go_num, by omega, q9⟩ | (simp [intOf]; omega)
    · have hil : i = L.length := by omega
      subst i
      rw [List.take_length] at hs
      have hlen := noT_len L t
      go_wp2_with (at_builtin; refine rowC_append _ _ _ _ ⟨t, m + 1⟩ hs rfl rfl rfl rfl (by omega) ?_; intro v1 w9 q9; obtain ⟨A2, c2, rfl, -, -⟩ := Kd.R_reads (rowC_at q9); have hc9 := (q9.pick 2).cells; have hf9 := (q9.pick 2).free)
      go_returns
      have q1 := (q9.pick 2).setb (cs' := #[.slice A2 (noT L t ++ [(⟨t, m + 1⟩ : Cn)]).length c2]) 0 _ rfl
      rw [show (noT L t ++ [(⟨t, m + 1⟩ : Cn)]).length = (noT L t).length + 1 by simp] at q1
      have q2 : St w0 _ (RH g (.slice A2 ((noT L t).length + 1) c2) :: rowC (.slice A2 ((noT L t).length + 1) c2) (noT L t ++ [⟨t, m + 1⟩]) :: Ls) := ((q1.pick 2).drop.pick 2).drop
      exact ⟨rfl, _, by subst hm_; exact q2⟩
def inL (L : List Cn) (l : List Tok) : List Cn := L.filter (fun c => decide (c.t ∈ l))
theorem inL_snoc (L : List Cn) (l : List Tok) (x : Cn) : inL (L ++ [x]) l = if x.t ∈ l then inL L l ++ [x] else inL L l := by
  unfold inL; by_cases e : x.t ∈ l <;> simp [e]
theorem inL_len (L : List Cn) (l : List Tok) : (inL L l).length ≤ L.length := List.length_filter_le _ _
set_option maxHeartbeats 4000000 in
theorem rkeep_s {w0 w : World} {Ls : List HP} {g : Nat} {v : Value} {L : List Cn} (K : Option Addr) (c n : Nat) (l : List Tok) (h : St w0 w (RH g v :: rowC v L :: Ls)) (hl : TA w0 K l) (hn : l.length = n) (hn2 : n ≤ 10000) (hL : L.length ≤ 10000) :
    Calls Try.prog 25 #[.pointer (some ⟨g, 0, none⟩), .slice K n c] w fun e w' => e = .returned (.tuple #[]) ∧ ∃ v', St w0 w' (RH g v' :: rowC v' (inL L l) :: Ls) := by
  obtain ⟨A, cp, rfl, -, -⟩ := Kd.R_reads (rowC_at (h.pick 1))
  have HL := Lib.hid hl
  clear hl
  have cG := h.cells
  go_enter Try.func25, Try.ntmps25
  go_wp2_with fail
  have a3 := rowC_nil h
  clear h cG
  go_loopw [4, 5] (fun u iv wr => ∃ i : Nat, iv = .int .i64 i ∧ i ≤ L.length ∧ St w0 wr (rowC u (inL (L.take i) l) :: RH g (.slice A L.length cp) :: rowC (.slice A L.length cp) L :: Ls)) (fun _ iv _ => 10000 - (intOf iv).toNat)
  case atStart => exact ⟨0, rfl, by omega, a3⟩
  case round =>
    clear a3
    obtain ⟨i, rfl, hi, hs⟩ := hrel
    have cG := (hs.pick 1).cells
    have hk0 : (0 : Int) ≤ (i : Int) := by omega
    by_cases mi : i < L.length
    · rcases rowC_get (rowC_at (hs.pick 2)) with ⟨rfl, -⟩ | ⟨b, c2, e, -⟩
      · simp at mi
      injection e with e1 e2 e3
      subst e1
      clear e2 e3
      have hx : inL (L.take (i + 1)) l = if L[i].t ∈ l then inL (L.take i) l ++ [L[i]] else inL (L.take i) l := by rw [List.take_succ_eq_append_getElem mi, inL_snoc]
      obtain ⟨x, hxe⟩ : ∃ x : Cn, x = L[i] := ⟨_, rfl⟩
      rw [← hxe] at hx
      have hget : ∀ w1 : World, kC.R 87 w1 0 (fun _ => True) (.slice (some ⟨b, 0, none⟩) L.length cp) L → w1.cell? ⟨b, i * 4, none⟩ = some (.int .i64 x.t.a) ∧ w1.cell? ⟨b, i * 4 + 1, none⟩ = some (.int .i64 x.t.b) ∧ w1.cell? ⟨b, i * 4 + 2, none⟩ = some (.int .i64 x.t.c) ∧ w1.cell? ⟨b, i * 4 + 3, none⟩ = some (.int .i64 x.n) := by
        intro w1 hw1
        rcases rowC_get hw1 with ⟨rfl, -⟩ | ⟨b2, c3, e, -, -, -, -, -, hcells⟩
        · simp at mi
        injection e with e1 e2 e3
        cases e1
        rw [hxe]; exact hcells i mi
      clear hxe
      have hlen : (inL (L.take i) l).length ≤ 10000 := by have := inL_len (L.take i) l; simp at this; omega
      have hk1 : (i : Int) < (L.length : Int) := by omega
      go_wp2_with fail
      go_loopw [6, 7] (fun v kv wr => ∃ k : Nat, v = .bool (decide (x.t ∈ l.take k)) ∧ kv = .int .i64 k ∧ k ≤ n ∧ St w0 wr (rowC u4 (inL (L.take i) l) :: RH g (.slice (some ⟨b, 0, none⟩) L.length cp) :: rowC (.slice (some ⟨b, 0, none⟩) L.length cp) L :: Ls)) (fun _ kv _ => 10000 - (intOf kv).toNat)
      case atStart => exact ⟨0, by simp, rfl, by omega, hs⟩
      case round =>
        clear hs cG
        obtain ⟨k, rfl, rfl, hk, hs⟩ := hrel
        have cG := (hs.pick 1).cells
        by_cases mk : k < n
        · obtain ⟨KB, ko, rfl, hKB, hkc⟩ := HL.out.resolve_left (by rintro rfl; simp at hn; omega)
          obtain ⟨y0, y1, y2⟩ := hkc k (by omega)
          have hin : decide (x.t ∈ l.take (k + 1)) = (decide (x.t ∈ l.take k) || decide (l[k] = x.t)) := by rw [List.take_succ_eq_append_getElem (by omega)]; simp only [List.mem_append, List.mem_singleton, Bool.decide_or]; congr 1; simp only [eq_comm]
          generalize l[k] = v at *
          have q0 : wr.cell? ⟨KB, ko + k * 3, none⟩ = _ := (hs.bel.cell hKB).trans y0
          have q1 : wr.cell? ⟨KB, ko + k * 3 + 1, none⟩ = _ := (hs.bel.cell hKB).trans y1
          have q2 : wr.cell? ⟨KB, ko + k * 3 + 2, none⟩ = _ := (hs.bel.cell hKB).trans y2
          obtain ⟨z0, z1, z2, -⟩ := hget wr (rowC_at (hs.pick 2))
          clear y0 y1 y2 hkc HL hget hx
          have kk0 : (0 : Int) ≤ (k : Int) := by omega
          have kk1 : (k : Int) < (n : Int) := by omega
          have heq := eq_tok v x.t
          by_cases hi2 : x.t ∈ l.take k
          · rw [show decide (x.t ∈ l.take k) = true by simp only [hi2, decide_true, decide_false]] at hin ⊢
            simp only [Bool.true_or] at hin
            clear hi2
            go_wp2
            go_quiet (fail)
            have hs1 := hs.more (below_drewN (Below.refl _ _) nq)
            clear hs
            go_wp2
            all_goals go_roundw
            all_goals first | exact ⟨k + 1, by rw [hin], by go_num, by omega, hs1⟩ | (simp [intOf]; omega)
          · rw [show decide (x.t ∈ l.take k) = false by simp only [hi2, decide_true, decide_false]] at hin ⊢
            simp only [Bool.false_or] at hin
            clear hi2
            go_wp2
            go_quiet (fail)
            have hs1 := hs.more (below_drewN (Below.refl _ _) nq)
            clear hs
            go_wp2
            all_goals go_roundw
            all_goals first | exact ⟨k + 1, by rw [hin], by go_num, by omega, hs1⟩ | (simp [intOf]; omega)
        · have hkn : k = n := by omega
          subst k
          rw [show l.take n = l by rw [← hn, List.take_length]]
          by_cases hi2 : x.t ∈ l
          · rw [show decide (x.t ∈ l) = true by simp only [hi2, decide_true]]
            rw [if_pos hi2] at hx
            clear hi2
            obtain ⟨z0, z1, z2, z3⟩ := hget wr (rowC_at (hs.pick 2))
            clear hget HL
            go_wp2_with (at_builtin; refine rowC_append _ _ _ _ x hs rfl rfl rfl rfl (by omega) ?_; intro v1 w9 q9)
            all_goals rw [← hx] at q9
            all_goals clear hs hx
            all_goals go_roundw
            all_goals first | exact ⟨i + 1, by go_num, by omega, q9⟩ | (simp [intOf]; omega)
          · rw [show decide (x.t ∈ l) = false by simp only [hi2, decide_false]]
            rw [if_neg hi2] at hx
            rw [← hx] at hs
            clear hi2 hx hget HL
            go_wp2
            all_goals go_roundw
            all_goals first | exact ⟨i + 1, by go_num, by omega, hs⟩ | (simp [intOf]; omega)
    · have hil : i = L.length := by omega
      subst i
      rw [List.take_length] at hs
      obtain ⟨A2, c2, rfl, -, -⟩ := Kd.R_reads (rowC_at hs)
      have hfG := (hs.pick 1).free
      go_wp2
      go_returns
      have q1 := (hs.pick 1).setb (cs' := #[.slice A2 (inL L l).length c2]) 0 _ rfl
      exact ⟨rfl, _, (q1.pick 2).drop⟩
/-- The list L says what f says. -/
def RF (L : List Cn) (f : Tok → Nat) : Prop := ∀ t, getC L t = (f t : Int)
theorem RF_nil : RF [] (fun _ => 0) := fun t => rfl
theorem getC_app (L M : List Cn) (t : Tok) : getC (L ++ M) t = if t ∈ L.map (·.t) then getC L t else getC M t := by
  induction L with
  | nil => simp
  | cons c L ih =>
    simp only [List.cons_append, getC, ih, List.map_cons, List.mem_cons]
    by_cases e : c.t = t
    · simp [e]
    · have e2 : ¬ t = c.t := fun q => e q.symm
      simp [e, e2]
theorem getC_noT (L : List Cn) (t x : Tok) (h : x ≠ t) : getC (noT L t) x = getC L x := by
  induction L with
  | nil => rfl
  | cons c L ih =>
    unfold noT at ih ⊢
    by_cases e : c.t = t
    · rw [List.filter_cons_of_neg (by simp [e]), ih]
      have h2 : ¬ t = x := fun q => h q.symm
      simp [getC, h2, e]
    · rw [List.filter_cons_of_pos (by simp [e])]
      simp only [getC, ih]
theorem noT_mem (L : List Cn) (t : Tok) : t ∉ (noT L t).map (·.t) := by
  unfold noT; simp
theorem getC_inL (L : List Cn) (l : List Tok) (x : Tok) : getC (inL L l) x = if x ∈ l then getC L x else 0 := by
  induction L with
  | nil => simp [inL, getC]
  | cons c L ih =>
    unfold inL at ih ⊢
    by_cases e : c.t ∈ l
    · rw [List.filter_cons_of_pos (by simpa using e)]
      simp only [getC, ih]
      by_cases q : c.t = x
      · subst q; simp [e]
      · simp [q]
    · rw [List.filter_cons_of_neg (by simpa using e), ih]
      by_cases q : c.t = x
      · subst q; simp [e]
      · simp [getC, q]
theorem RF.tell {L : List Cn} {f : Tok → Nat} (h : RF L f) {t : Tok} (hv : tokOk t = true) (ok : Bool) : RF (noT L t ++ [⟨t, if ok = true then 0 else getC L t + 1⟩]) (tellF f t ok) := fun x => by
  rw [getC_app]
  unfold tellF
  rw [if_pos hv]
  by_cases e : x = t
  · subst e
    rw [if_neg (noT_mem L x), if_pos rfl]
    simp only [getC, if_pos]
    rw [h x]
    cases ok <;> simp
  · rw [if_neg e, ← h x]
    by_cases m : x ∈ (noT L t).map (·.t)
    · rw [if_pos m, getC_noT L t x e]
    · rw [if_neg m]
      have := getC_noT L t x e
      rw [getC_no m] at this
      have e2 : ¬ t = x := fun q => e q.symm
      simp [getC, e2, ← this]
theorem RF.keep {L : List Cn} {f : Tok → Nat} (h : RF L f) (l : List Tok) : RF (inL L l) (keepF f l) := fun x => by
  rw [getC_inL, h x]; unfold keepF; split <;> simp
/-- ref16's Tell. -/
theorem rtell_s {w0 w : World} {Ls : List HP} {g : Nat} {v : Value} {L : List Cn} {f : Tok → Nat} (t : Tok) (ok : Bool) (h : St w0 w (RH g v :: rowC v L :: Ls)) (hf : RF L f) (hb : f t < 1099511627776) (hL : L.length ≤ 9000) :
    Calls Try.prog 28 #[.pointer (some ⟨g, 0, none⟩), tokV t, .bool ok] w fun e w' => e = .returned (.int .i64 (tokE t)) ∧ ∃ v' L', St w0 w' (RH g v' :: rowC v' L' :: Ls) ∧ RF L' (tellF f t ok) ∧ L'.length ≤ L.length + 1 := by
  cases hv : tokOk t with
  | false =>
    refine (rtell_no g t ok w hv).mono ?_
    rintro e w' ⟨rfl, hB⟩
    have hE : tokE t = 3 := by unfold tokE; rw [hv]; rfl
    have hF : f = tellF f t ok := by funext x; unfold tellF; rw [hv]; rfl
    exact ⟨by rw [hE], v, L, h.more hB, hF ▸ hf, by omega⟩
  | true =>
    have hE : tokE t = 0 := by unfold tokE; rw [hv]; rfl
    have hq := hf.tell hv ok
    have hn := noT_len L t
    cases ok with
    | true =>
      refine (rtell_true t h hv (by omega) (by rw [hf]; omega) (by rw [hf]; omega)).mono ?_
      rintro e w' ⟨rfl, v', hs⟩
      exact ⟨by rw [hE], v', _, hs, hq, by simp; omega⟩
    | false =>
      refine (rtell_false t h hv (by omega) (by rw [hf]; omega) (by rw [hf]; omega)).mono ?_
      rintro e w' ⟨rfl, v', hs⟩
      exact ⟨by rw [hE], v', _, hs, hq, by simp; omega⟩
end Go.Proofs.Ytccehechhdndmaa
