/- The contracts of beat.Net: New, Send, Sent, Copy, and of slices.Clone. -/
import Derived.Test.YtecneikblkjgoaaBase
import Derived.Test.YtecneikblkjgoaaBut
import Derived.Test.YtecneikblkjgoaaSep
import Derived.Test.YtecneikblkjgoaaFuse
import Derived.Test.YtecneikblkjgoaaFuseR
import Derived.Test.YtecneikblkjgoaaProg
import Derived.Lib.Hide
import Derived.Lib.LazyBuf
import Derived.Test.YtecneikblkjgoaaWWords
import Derived.Test.YtecneikblkjgoaaWLast
import Derived.Test.YtecneikblkjgoaaWMore
namespace Go.Proofs.Ytecneikblkjgoaa
open Go.RowKit Go.Proofs.YtecneikblkjgoaaW.PrintWords Go.Proofs.YtecneikblkjgoaaW.PrintLast Go.Proofs.YtecneikblkjgoaaW.PrintMore
set_option linter.unusedSimpArgs false
set_option linter.unusedVariables false

theorem Chg.of_but {B : Nat} {S : Nat → Prop} {w w' : World} (h : But B w w') (hS : S B) : Chg S w w' := ⟨h.os, h.tape, h.output, h.size, fun k hk hs => h.block k (fun e => hk (e ▸ hS)) hs⟩
theorem FZ.step {S : Nat → Prop} {w w' : World} {b : Nat} {s l : Int} (h : FZ w b s l) (k : Chg S w w') (hb : ¬ S b) : FZ w' b s l := k.at hb h
theorem RF.step {S : Nat → Prop} {w w' : World} {b : Nat} {s l : Int} (h : RF w b s l) (k : Chg S w w') (hb : ¬ S b) : RF w' b s l := by
  obtain ⟨ar, le, h, r⟩ := h; exact ⟨ar, le, k.at hb h, r⟩

theorem FZ.typ {w : World} {b : Nat} {s l : Int} (h : FZ w b s l) : ∃ cells, w.heap[b]? = some (.cells cells 87 (0, 0)) := ⟨_, h⟩
theorem RF.typ {w : World} {b : Nat} {s l : Int} (h : RF w b s l) : ∃ cells, w.heap[b]? = some (.cells cells 40 (0, 0)) := by obtain ⟨ar, le, h, r⟩ := h; exact ⟨_, h⟩
theorem info_int3 : (Try.prog.info? 3).map (fun i => (i.zero, i.size, i.bytes)) = some (some (.int .i64 0), 1, 8) := by kernel_rfl
/-! ### slices.Clone, Sent, Copy -/
set_option maxHeartbeats 1000000 in
theorem clone_c (base : Nat) (v : Value) (xs : List Int) (w : World) (h : (Kd.int .i64).R 3 w base (fun _ => True) v xs) (hx : xs.length ≤ 100000) :
    Calls Try.prog 52 #[v] w fun e w' => ∃ u, e = .returned u ∧ (Kd.int .i64).R 3 w' w.heap.size (fun _ => True) u xs ∧ Below w.heap.size w w' := by
  obtain ⟨A, c, rfl, hc, hC⟩ := Kd.R_reads h
  clear h
  cases A with
  | none =>
    obtain rfl : xs = [] := by
      rcases Nat.eq_zero_or_pos xs.length with h0 | h0
      · exact List.eq_nil_of_length_eq_zero h0
      · obtain ⟨ad, e, _⟩ := (Kd.reads_of_C (d := (0 : Int)) hC).2.2 h0; cases e
    clear hC hc hx
    have hq := fun (W : World) (a : Option Addr) (l c : Nat) => @Go.run_eql_slice_nil Try.prog W 22 3 a l c Try.underlying22
    go_enter Try.func52, Try.ntmps52
    go_wp2
    go_returns
    exact ⟨_, rfl, Kd.R_nil _ _ _ _ _, by go_grown⟩
  | some ad =>
    have HC := Lib.hid hC
    clear hC
    have hq := fun (W : World) (a : Option Addr) (l c : Nat) => @Go.run_eql_slice_nil Try.prog W 22 3 a l c Try.underlying22
    go_enter Try.func52, Try.ntmps52
    go_wp2_with (at_builtin; (refine Kd.R_append_row (Value.int .i64) (0 : Int) w.heap.size rfl _ _ 22 3 (.int .i64 0) 8 rfl Try.underlying22 info_int3 rfl (by decide) (.slice (some ⟨w.heap.size, 0, none⟩) 0 0) [] xs (some ad) _ c (fun _ => True) rfl rfl (fun _ _ => trivial) (Kd.R_of_own (xs := []) (World.ownsRow_lit w #[] 0 (Nat.le_refl _) (by decide) rfl) (fun _ _ => trivial)) (Kd.C_alloc HC.out _) (by go_grown) (by simp) (by simp; omega) ?_); intro v1 w1 hR hB hg hat; clear hg hat)
    go_returns
    exact ⟨_, rfl, by rw [List.nil_append] at hR; exact hR, (below_alloc (Below.refl _ _) _).trans hB⟩
set_option maxHeartbeats 1000000 in
theorem copyints_c (base : Nat) (v : Value) (xs : List Int) (w : World) (h : (Kd.int .i64).R 3 w base (fun _ => True) v xs) (hx : xs.length ≤ 100000) :
    Calls Try.prog 53 #[v] w fun e w' => ∃ u, e = .returned u ∧ (Kd.int .i64).R 3 w' w.heap.size (fun _ => True) u xs ∧ Below w.heap.size w w' := by
  obtain ⟨A, c, rfl, hc, hC⟩ := Kd.R_reads h
  clear h
  have HC := Lib.hid hC
  clear hC
  go_enter Try.func53, Try.ntmps53
  go_wp2_with (at_builtin; refine Kd.R_append_row (Value.int .i64) (0 : Int) w.heap.size rfl _ _ 22 3 (.int .i64 0) 8 rfl Try.underlying22 info_int3 rfl (by decide) _ [] xs A _ c (fun _ => True) rfl rfl (fun _ _ => trivial) (Kd.R_nil _ _ _ _ _) HC.out (Below.refl _ _) (Nat.le_refl _) (by simp; omega) ?_; intro v1 w1 hR hB hg hat)
  go_returns
  exact ⟨_, rfl, by rw [List.nil_append] at hR; exact hR, hB⟩
/-- Block b is a net over the fuse f with the ticks xs, in the block o. -/
def NZ (w : World) (base b f : Nat) (o : Option Nat) (xs : List Int) : Prop :=
  ∃ v, v.ownBlock = o ∧ w.heap[b]? = some (.cells #[.pointer (some ⟨f, 0, none⟩), v] 90 (0, 0)) ∧ (Kd.int .i64).R 3 w base (fun _ => True) v xs
theorem NZ.row {w : World} {base b f : Nat} {o : Option Nat} {xs : List Int} (h : NZ w base b f o xs) {g : Nat} (hg : o = some g) : base ≤ g ∧ g < w.heap.size ∧ ∃ cells, w.heap[g]? = some (.cells cells 3 (0, 0)) := by
  obtain ⟨v, rfl, h1, h2⟩ := h
  have h3 := (Kd.R_bound h2).1 g hg
  obtain ⟨-, h4, h5, q, hq, cells, hc⟩ := h3
  obtain ⟨inner, ho⟩ := Kd.R_own h2
  exact ⟨h4, h5, own_typed ho g hg⟩
theorem NZ.lt {w : World} {base b f : Nat} {o : Option Nat} {xs : List Int} (h : NZ w base b f o xs) : b < w.heap.size := by obtain ⟨v, _, h1, _⟩ := h; exact vlt h1
theorem NZ.ne_row {w : World} {base b f : Nat} {o : Option Nat} {xs : List Int} (h : NZ w base b f o xs) : o ≠ some b := fun e => by
  obtain ⟨_, _, cells, hc⟩ := h.row e
  obtain ⟨v, _, h1, _⟩ := h
  rw [hc] at h1
  simp at h1
theorem NZ.fz_row {w : World} {base b f c : Nat} {s l : Int} {o : Option Nat} {xs : List Int} (h : NZ w base b f o xs) (z : FZ w c s l) : o ≠ some c := fun e => by
  obtain ⟨_, _, cells, hc⟩ := h.row e
  obtain ⟨_, z⟩ := z.typ
  rw [hc] at z
  simp at z
theorem NZ.fz {w : World} {base b f c : Nat} {s l : Int} {o : Option Nat} {xs : List Int} (h : NZ w base b f o xs) (z : FZ w c s l) : b ≠ c := fun e => by
  obtain ⟨v, _, h1, _⟩ := h
  obtain ⟨_, z⟩ := z.typ
  rw [e, z] at h1
  simp at h1
theorem NZ.step {S : Nat → Prop} {w w' : World} {base b f : Nat} {o : Option Nat} {xs : List Int} (h : NZ w base b f o xs) (k : Chg S w w') (hb : ¬ S b) (ho : ∀ g, o = some g → ¬ S g) : NZ w' base b f o xs := by
  obtain ⟨v, h0, h1, h2⟩ := h
  refine ⟨v, h0, k.at hb h1, Kd.R_mono (Kd.R_move (ok := fun g => some g = o ∧ g < w.heap.size) ⟨fun g hg => ⟨by rw [← hg, h0], (Kd.R_bound h2).1 g hg |>.2.2.1⟩, ?_⟩ (fun g hg => k.block g (ho g hg.1.symm) hg.2)) (fun _ _ => trivial)⟩
  obtain ⟨_, inner, hi, hr⟩ := h2
  exact ⟨inner, hi, hr⟩
theorem NZ.bel {w w' : World} {base b f : Nat} {o : Option Nat} {xs : List Int} (h : NZ w base b f o xs) (k : Below w.heap.size w w') : NZ w' base b f o xs :=
  h.step (S := fun _ => False) (Chg.of_below k) (fun q => q) (fun _ _ q => q)
theorem bnew_c (f : Nat) (w : World) (base : Nat) : Calls Try.prog 13 #[.pointer (some ⟨f, 0, none⟩)] w fun e w' => ∃ b, e = .returned (.tuple #[.pointer (some ⟨b, 0, none⟩), .int .i64 0]) ∧ w.heap.size ≤ b ∧ NZ w' base b f none [] ∧ Below w.heap.size w w' := by
  go_enter Try.func13, Try.ntmps13
  go_wp2
  go_returns
  exact ⟨_, rfl, Nat.le_refl _, ⟨_, rfl, vnew, Kd.R_nil _ _ _ _ _⟩, by go_grown⟩
theorem bnew_nil (w : World) : Calls Try.prog 13 #[.pointer none] w fun e w' => e = .returned (.tuple #[.pointer none, .int .i64 1]) ∧ w' = w := by
  go_enter Try.func13, Try.ntmps13
  go_wp2
  go_returns
  exact ⟨rfl, rfl⟩
theorem send_nil (t : Int) (w : World) : Calls Try.prog 15 #[.pointer none, .int .i64 t] w fun e w' => e = .returned (.int .i64 1) ∧ w' = w := by
  go_enter Try.func15, Try.ntmps15
  go_wp2
  go_returns
  exact ⟨rfl, rfl⟩
theorem send_bad (b : Nat) (t : Int) (w : World) (ht : t < 0 ∨ 1099511627776 < t) : Calls Try.prog 15 #[.pointer (some ⟨b, 0, none⟩), .int .i64 t] w fun e w' => e = .returned (.int .i64 2) ∧ w' = w := by
  by_cases h : t < 0
  · clear ht
    go_enter Try.func15, Try.ntmps15
    go_wp2
    go_returns
    exact ⟨rfl, rfl⟩
  · have h2 : 1099511627776 < t := by omega
    clear ht
    go_enter Try.func15, Try.ntmps15
    go_wp2
    go_returns
    exact ⟨rfl, rfl⟩
set_option maxHeartbeats 1000000 in
theorem send_no (base b f : Nat) (o : Option Nat) (xs : List Int) (t E s' l' : Int) (w : World) (h : NZ w base b f o xs) (ht : 0 ≤ t ∧ t ≤ 1099511627776) (hE : E ≠ 0) {s l : Int} (hf : FZ w f s l)
    (hb : Calls Try.prog 34 #[.pointer (some ⟨f, 0, none⟩)] w fun e w' => e = .returned (.int .i64 E) ∧ FZ w' f s' l' ∧ But f w w') :
    Calls Try.prog 15 #[.pointer (some ⟨b, 0, none⟩), .int .i64 t] w fun e w' => e = .returned (.int .i64 E) ∧ FZ w' f s' l' ∧ NZ w' base b f o xs ∧ Chg (fun k => k = f) w w' := by
  have n1 := h.fz hf
  have n2 := h.fz_row hf
  have H := Lib.hid h
  obtain ⟨v, -, hz, -⟩ := h
  have hc := vcell hz
  have HB := Lib.hid hb
  clear hb hz
  go_enter Try.func15, Try.ntmps15
  go_wp2_with fail
  refine HB.out.mono ?_
  rintro e_ w1 ⟨rfl, zf, kb⟩
  have hE2 : (E != 0) = true := by simpa using hE
  go_wp2
  go_returns
  exact ⟨rfl, zf, H.out.step (Chg.of_but (S := fun k => k = f) kb rfl) n1 (fun g hg q => n2 (by rw [hg, q])), Chg.of_but kb rfl⟩
set_option maxHeartbeats 1000000 in
theorem send_ok (base b f : Nat) (o : Option Nat) (xs : List Int) (t s' l' : Int) (w : World) (h : NZ w base b f o xs) (ht : 0 ≤ t ∧ t ≤ 1099511627776) (hx : xs.length ≤ 100000) (hbase : base ≤ w.heap.size) {s l : Int} (hf : FZ w f s l)
    (hb : Calls Try.prog 34 #[.pointer (some ⟨f, 0, none⟩)] w fun e w' => e = .returned (.int .i64 0) ∧ FZ w' f s' l' ∧ But f w w') :
    Calls Try.prog 15 #[.pointer (some ⟨b, 0, none⟩), .int .i64 t] w fun e w' => e = .returned (.int .i64 0) ∧ FZ w' f s' l' ∧ (∃ o', (o' = o ∨ ∃ g, o' = some g ∧ w.heap.size ≤ g) ∧ NZ w' base b f o' (xs ++ [t])) ∧ Chg (fun k => k = f ∨ k = b ∨ o = some k) w w' := by
  have n1 := h.fz hf
  have n2 := h.fz_row hf
  have n3 := h.ne_row
  have hlt := h.lt
  have H := Lib.hid h
  obtain ⟨v, hv, hz, -⟩ := h
  have hc := vcell hz
  have HB := Lib.hid hb
  clear hb hz
  go_enter Try.func15, Try.ntmps15
  go_wp2_with fail
  refine HB.out.mono ?_
  rintro e_ w1 ⟨rfl, zf, kb⟩
  have hs1 := kb.size
  have h1 := H.out.step (Chg.of_but (S := fun k => k = f) kb rfl) n1 (fun g hg q => n2 (by rw [hg, q]))
  obtain ⟨v1, hv1, hz1, hR⟩ := h1
  have hlt1 := vlt hz1
  have hc1 := vcell hz1
  have hf1 := vfree hz1
  have n4 : ∀ k, v1.ownBlock = some k → k ≠ b := fun k hk e => n3 (by rw [← hv1, hk, e])
  have n5 : ∀ k, v1.ownBlock = some k → k ≠ f := fun k hk e => n2 (by rw [← hv1, hk, e])
  obtain ⟨A, c, rfl, -, -⟩ := Kd.R_reads hR
  have HR := Lib.hid hR
  clear hR hc
  go_wp2_with (at_builtin; (refine Kd.R_append (Kd.int .i64) base rfl _ _ 22 3 (.int .i64 0) 8 rfl Try.underlying22 info_int3 rfl (by decide) (by decide) (.slice A xs.length c) xs t [.int .i64 t] (fun _ => True) (fun k => False) rfl rfl rfl (fun k hk => hk.elim) (fun _ _ => trivial) HR.out (Below.refl _ _) (by omega) (by omega) ?_; intro v2 w2 hR2 hB2 hg2 hat2); have hz2 := (hg2.block b hlt1 (fun e => n4 b e.symm rfl)).trans hz1; have zf2 := zf.step (Chg.of_grown (S := fun k => (Value.slice A xs.length c).ownBlock = some k) hg2 (fun k h => h)) (fun e => n5 f e rfl); have hc2 := vcell hz2; have hf2 := vfree hz2; obtain ⟨A2, c2, rfl, -, -⟩ := Kd.R_reads hR2; rw [show (xs ++ [t]).length = xs.length + 1 by simp] at hR2 hat2 ⊢; have HR2 := Lib.hid hR2; have HAT := Lib.hid hat2; clear hR2 hB2 hat2)
  go_returns
  have hR3 : (Kd.int .i64).R 3 (w2.setCell ⟨b, 1, none⟩ (.slice A2 (xs.length + 1) c2)) base (fun _ => True) (.slice A2 (xs.length + 1) c2) (xs ++ [t]) := Kd.R_set HR2.out hz2 (by intro q hq; simp [Kd.int, Kd.scalar] at hq; omega) 1 _
  refine ⟨rfl, zf2.step (Chg.setc (Chg.refl (fun k => k = b) _) rfl) (Ne.symm n1), ⟨_, ?_, ⟨_, rfl, vput hz2 rfl, hR3⟩⟩, ?_⟩
  · rcases HAT.out with e | ⟨g, e, hg⟩
    · exact Or.inl (by rw [e, hv1])
    · exact Or.inr ⟨g, e, by omega⟩
  · refine Chg.setc ((Chg.of_but kb (Or.inl rfl)).trans (Chg.of_grown hg2 (fun k hk => Or.inr (Or.inr (by rw [← hv1, hk]))))) (Or.inr (Or.inl rfl))

theorem sent_nil (w : World) : Calls Try.prog 17 #[.pointer none] w fun e w' => e = .returned (.slice none 0 0) ∧ w' = w := by
  go_enter Try.func17, Try.ntmps17
  go_wp2
  go_returns
  exact ⟨rfl, rfl⟩
set_option maxHeartbeats 1000000 in
theorem sent_c (base b f : Nat) (o : Option Nat) (xs : List Int) (w : World) (h : NZ w base b f o xs) (hx : xs.length ≤ 100000) :
    Calls Try.prog 17 #[.pointer (some ⟨b, 0, none⟩)] w fun e w' => ∃ u, e = .returned u ∧ (Kd.int .i64).R 3 w' w.heap.size (fun _ => True) u xs ∧ Below w.heap.size w w' := by
  obtain ⟨v, hv, hz, hR⟩ := h
  have hc := vcell hz
  obtain ⟨A, c, rfl, -, -⟩ := Kd.R_reads hR
  have HR := Lib.hid hR
  clear hR hz
  go_enter Try.func17, Try.ntmps17
  go_wp2_with fail
  refine (clone_c base _ xs _ HR.out hx).mono ?_
  rintro e_ w1 ⟨u, rfl, hR1, hB1⟩
  obtain ⟨A1, c1, rfl, -, -⟩ := Kd.R_reads hR1
  have HR1 := Lib.hid hR1
  clear hR1
  go_wp2
  go_returns
  exact ⟨_, rfl, HR1.out, hB1⟩
set_option maxHeartbeats 1000000 in
theorem bcopy_no (b f : Option Addr) (w : World) (h : b = none ∨ f = none) : Calls Try.prog 19 #[.pointer b, .pointer f] w fun e w' => e = .returned (.pointer none) ∧ w' = w := by
  cases b with
  | none =>
    clear h
    go_enter Try.func19, Try.ntmps19
    go_wp2
    go_returns
    exact ⟨rfl, rfl⟩
  | some b =>
    obtain rfl : f = none := by simpa using h
    clear h
    go_enter Try.func19, Try.ntmps19
    go_wp2
    go_returns
    exact ⟨rfl, rfl⟩
set_option maxHeartbeats 1000000 in
theorem bcopy_c (base b f f2 : Nat) (o : Option Nat) (xs : List Int) (w : World) (h : NZ w base b f o xs) (hx : xs.length ≤ 100000) (hbase : base ≤ w.heap.size) :
    Calls Try.prog 19 #[.pointer (some ⟨b, 0, none⟩), .pointer (some ⟨f2, 0, none⟩)] w fun e w' => ∃ b2 o2, e = .returned (.pointer (some ⟨b2, 0, none⟩)) ∧ w.heap.size ≤ b2 ∧ (∀ g, o2 = some g → w.heap.size ≤ g) ∧ NZ w' base b2 f2 o2 xs ∧ Below w.heap.size w w' := by
  obtain ⟨v, hv, hz, hR⟩ := h
  have hc := vcell hz
  obtain ⟨A, c, rfl, -, -⟩ := Kd.R_reads hR
  have HR := Lib.hid hR
  clear hR hz
  go_enter Try.func19, Try.ntmps19
  go_wp2_with fail
  refine (clone_c base _ xs _ HR.out hx).mono ?_
  rintro e_ w1 ⟨u, rfl, hR1, hB1⟩
  obtain ⟨A1, c1, rfl, -, -⟩ := Kd.R_reads hR1
  have HR1 := Lib.hid hR1
  clear hR1
  have hs1 := hB1.size
  go_wp2
  go_returns
  exact ⟨_, (Value.slice A1 xs.length c1).ownBlock, rfl, hs1, fun g hg => ((Kd.R_bound HR1.out).1 g hg).2.1, ⟨_, rfl, vnew, Kd.R_lower (Kd.R_below HR1.out (by go_grown)) hbase⟩, below_then hB1 (by go_grown)⟩
/-- Block b is a reference's net over the fuse f with the ticks xs, in the block o. -/
def NR (w : World) (base b f : Nat) (o : Option Nat) (xs : List Int) : Prop :=
  ∃ v, v.ownBlock = o ∧ w.heap[b]? = some (.cells #[.pointer (some ⟨f, 0, none⟩), v] 93 (0, 0)) ∧ (Kd.int .i64).R 3 w base (fun _ => True) v xs
theorem NR.row {w : World} {base b f : Nat} {o : Option Nat} {xs : List Int} (h : NR w base b f o xs) {g : Nat} (hg : o = some g) : base ≤ g ∧ g < w.heap.size ∧ ∃ cells, w.heap[g]? = some (.cells cells 3 (0, 0)) := by
  obtain ⟨v, rfl, h1, h2⟩ := h
  have h3 := (Kd.R_bound h2).1 g hg
  obtain ⟨-, h4, h5, q, hq, cells, hc⟩ := h3
  obtain ⟨inner, ho⟩ := Kd.R_own h2
  exact ⟨h4, h5, own_typed ho g hg⟩
theorem NR.lt {w : World} {base b f : Nat} {o : Option Nat} {xs : List Int} (h : NR w base b f o xs) : b < w.heap.size := by obtain ⟨v, _, h1, _⟩ := h; exact vlt h1
theorem NR.ne_row {w : World} {base b f : Nat} {o : Option Nat} {xs : List Int} (h : NR w base b f o xs) : o ≠ some b := fun e => by
  obtain ⟨_, _, cells, hc⟩ := h.row e
  obtain ⟨v, _, h1, _⟩ := h
  rw [hc] at h1
  simp at h1
theorem NR.fz_row {w : World} {base b f c : Nat} {s l : Int} {o : Option Nat} {xs : List Int} (h : NR w base b f o xs) (z : RF w c s l) : o ≠ some c := fun e => by
  obtain ⟨_, _, cells, hc⟩ := h.row e
  obtain ⟨_, z⟩ := z.typ
  rw [hc] at z
  simp at z
theorem NR.fz {w : World} {base b f c : Nat} {s l : Int} {o : Option Nat} {xs : List Int} (h : NR w base b f o xs) (z : RF w c s l) : b ≠ c := fun e => by
  obtain ⟨v, _, h1, _⟩ := h
  obtain ⟨_, z⟩ := z.typ
  rw [e, z] at h1
  simp at h1
theorem NR.step {S : Nat → Prop} {w w' : World} {base b f : Nat} {o : Option Nat} {xs : List Int} (h : NR w base b f o xs) (k : Chg S w w') (hb : ¬ S b) (ho : ∀ g, o = some g → ¬ S g) : NR w' base b f o xs := by
  obtain ⟨v, h0, h1, h2⟩ := h
  refine ⟨v, h0, k.at hb h1, Kd.R_mono (Kd.R_move (ok := fun g => some g = o ∧ g < w.heap.size) ⟨fun g hg => ⟨by rw [← hg, h0], (Kd.R_bound h2).1 g hg |>.2.2.1⟩, ?_⟩ (fun g hg => k.block g (ho g hg.1.symm) hg.2)) (fun _ _ => trivial)⟩
  obtain ⟨_, inner, hi, hr⟩ := h2
  exact ⟨inner, hi, hr⟩
theorem NR.bel {w w' : World} {base b f : Nat} {o : Option Nat} {xs : List Int} (h : NR w base b f o xs) (k : Below w.heap.size w w') : NR w' base b f o xs :=
  h.step (S := fun _ => False) (Chg.of_below k) (fun q => q) (fun _ _ q => q)
theorem rbnew_c (f : Nat) (w : World) (base : Nat) : Calls Try.prog 20 #[.pointer (some ⟨f, 0, none⟩)] w fun e w' => ∃ b, e = .returned (.tuple #[.pointer (some ⟨b, 0, none⟩), .int .i64 0]) ∧ w.heap.size ≤ b ∧ NR w' base b f none [] ∧ Below w.heap.size w w' := by
  go_enter Try.func20, Try.ntmps20
  go_wp2
  go_returns
  exact ⟨_, rfl, Nat.le_refl _, ⟨_, rfl, vnew, Kd.R_nil _ _ _ _ _⟩, by go_grown⟩
theorem rbnew_nil (w : World) : Calls Try.prog 20 #[.pointer none] w fun e w' => e = .returned (.tuple #[.pointer none, .int .i64 1]) ∧ w' = w := by
  go_enter Try.func20, Try.ntmps20
  go_wp2
  go_returns
  exact ⟨rfl, rfl⟩
theorem rsend_nil (t : Int) (w : World) : Calls Try.prog 25 #[.pointer none, .int .i64 t] w fun e w' => e = .returned (.int .i64 1) ∧ w' = w := by
  go_enter Try.func25, Try.ntmps25
  go_wp2
  go_returns
  exact ⟨rfl, rfl⟩
theorem rsend_bad (b : Nat) (t : Int) (w : World) (ht : t < 0 ∨ 1099511627776 < t) : Calls Try.prog 25 #[.pointer (some ⟨b, 0, none⟩), .int .i64 t] w fun e w' => e = .returned (.int .i64 2) ∧ w' = w := by
  by_cases h : t < 0
  · clear ht
    go_enter Try.func25, Try.ntmps25
    go_wp2
    go_returns
    exact ⟨rfl, rfl⟩
  · have h2 : 1099511627776 < t := by omega
    clear ht
    go_enter Try.func25, Try.ntmps25
    go_wp2
    go_returns
    exact ⟨rfl, rfl⟩
set_option maxHeartbeats 1000000 in
theorem rsend_no (base b f : Nat) (o : Option Nat) (xs : List Int) (t E s' l' : Int) (w : World) (h : NR w base b f o xs) (ht : 0 ≤ t ∧ t ≤ 1099511627776) (hE : E ≠ 0) {s l : Int} (hf : RF w f s l)
    (hb : Calls Try.prog 54 #[.pointer (some ⟨f, 0, none⟩)] w fun e w' => e = .returned (.int .i64 E) ∧ RF w' f s' l' ∧ But f w w') :
    Calls Try.prog 25 #[.pointer (some ⟨b, 0, none⟩), .int .i64 t] w fun e w' => e = .returned (.int .i64 E) ∧ RF w' f s' l' ∧ NR w' base b f o xs ∧ Chg (fun k => k = f) w w' := by
  have n1 := h.fz hf
  have n2 := h.fz_row hf
  have H := Lib.hid h
  obtain ⟨v, -, hz, -⟩ := h
  have hc := vcell hz
  have HB := Lib.hid hb
  clear hb hz
  go_enter Try.func25, Try.ntmps25
  go_wp2_with fail
  refine HB.out.mono ?_
  rintro e_ w1 ⟨rfl, zf, kb⟩
  have hE2 : (E != 0) = true := by simpa using hE
  go_wp2
  go_returns
  exact ⟨rfl, zf, H.out.step (Chg.of_but (S := fun k => k = f) kb rfl) n1 (fun g hg q => n2 (by rw [hg, q])), Chg.of_but kb rfl⟩
set_option maxHeartbeats 1000000 in
theorem rsend_ok (base b f : Nat) (o : Option Nat) (xs : List Int) (t s' l' : Int) (w : World) (h : NR w base b f o xs) (ht : 0 ≤ t ∧ t ≤ 1099511627776) (hx : xs.length ≤ 100000) (hbase : base ≤ w.heap.size) {s l : Int} (hf : RF w f s l)
    (hb : Calls Try.prog 54 #[.pointer (some ⟨f, 0, none⟩)] w fun e w' => e = .returned (.int .i64 0) ∧ RF w' f s' l' ∧ But f w w') :
    Calls Try.prog 25 #[.pointer (some ⟨b, 0, none⟩), .int .i64 t] w fun e w' => e = .returned (.int .i64 0) ∧ RF w' f s' l' ∧ (∃ o', (o' = o ∨ ∃ g, o' = some g ∧ w.heap.size ≤ g) ∧ NR w' base b f o' (xs ++ [t])) ∧ Chg (fun k => k = f ∨ k = b ∨ o = some k) w w' := by
  have n1 := h.fz hf
  have n2 := h.fz_row hf
  have n3 := h.ne_row
  have hlt := h.lt
  have H := Lib.hid h
  obtain ⟨v, hv, hz, -⟩ := h
  have hc := vcell hz
  have HB := Lib.hid hb
  clear hb hz
  go_enter Try.func25, Try.ntmps25
  go_wp2_with fail
  refine HB.out.mono ?_
  rintro e_ w1 ⟨rfl, zf, kb⟩
  have hs1 := kb.size
  have h1 := H.out.step (Chg.of_but (S := fun k => k = f) kb rfl) n1 (fun g hg q => n2 (by rw [hg, q]))
  obtain ⟨v1, hv1, hz1, hR⟩ := h1
  have hlt1 := vlt hz1
  have hc1 := vcell hz1
  have hf1 := vfree hz1
  have n4 : ∀ k, v1.ownBlock = some k → k ≠ b := fun k hk e => n3 (by rw [← hv1, hk, e])
  have n5 : ∀ k, v1.ownBlock = some k → k ≠ f := fun k hk e => n2 (by rw [← hv1, hk, e])
  obtain ⟨A, c, rfl, -, -⟩ := Kd.R_reads hR
  have HR := Lib.hid hR
  clear hR hc
  go_wp2_with (at_builtin; (refine Kd.R_append (Kd.int .i64) base rfl _ _ 22 3 (.int .i64 0) 8 rfl Try.underlying22 info_int3 rfl (by decide) (by decide) (.slice A xs.length c) xs t [.int .i64 t] (fun _ => True) (fun k => False) rfl rfl rfl (fun k hk => hk.elim) (fun _ _ => trivial) HR.out (Below.refl _ _) (by omega) (by omega) ?_; intro v2 w2 hR2 hB2 hg2 hat2); have hz2 := (hg2.block b hlt1 (fun e => n4 b e.symm rfl)).trans hz1; have zf2 := zf.step (Chg.of_grown (S := fun k => (Value.slice A xs.length c).ownBlock = some k) hg2 (fun k h => h)) (fun e => n5 f e rfl); have hc2 := vcell hz2; have hf2 := vfree hz2; obtain ⟨A2, c2, rfl, -, -⟩ := Kd.R_reads hR2; rw [show (xs ++ [t]).length = xs.length + 1 by simp] at hR2 hat2 ⊢; have HR2 := Lib.hid hR2; have HAT := Lib.hid hat2; clear hR2 hB2 hat2)
  go_returns
  have hR3 : (Kd.int .i64).R 3 (w2.setCell ⟨b, 1, none⟩ (.slice A2 (xs.length + 1) c2)) base (fun _ => True) (.slice A2 (xs.length + 1) c2) (xs ++ [t]) := Kd.R_set HR2.out hz2 (by intro q hq; simp [Kd.int, Kd.scalar] at hq; omega) 1 _
  refine ⟨rfl, zf2.step (Chg.setc (Chg.refl (fun k => k = b) _) rfl) (Ne.symm n1), ⟨_, ?_, ⟨_, rfl, vput hz2 rfl, hR3⟩⟩, ?_⟩
  · rcases HAT.out with e | ⟨g, e, hg⟩
    · exact Or.inl (by rw [e, hv1])
    · exact Or.inr ⟨g, e, by omega⟩
  · refine Chg.setc ((Chg.of_but kb (Or.inl rfl)).trans (Chg.of_grown hg2 (fun k hk => Or.inr (Or.inr (by rw [← hv1, hk]))))) (Or.inr (Or.inl rfl))

theorem rsent_nil (w : World) : Calls Try.prog 26 #[.pointer none] w fun e w' => e = .returned (.slice none 0 0) ∧ w' = w := by
  go_enter Try.func26, Try.ntmps26
  go_wp2
  go_returns
  exact ⟨rfl, rfl⟩
set_option maxHeartbeats 1000000 in
theorem rsent_c (base b f : Nat) (o : Option Nat) (xs : List Int) (w : World) (h : NR w base b f o xs) (hx : xs.length ≤ 100000) :
    Calls Try.prog 26 #[.pointer (some ⟨b, 0, none⟩)] w fun e w' => ∃ u, e = .returned u ∧ (Kd.int .i64).R 3 w' w.heap.size (fun _ => True) u xs ∧ Below w.heap.size w w' := by
  obtain ⟨v, hv, hz, hR⟩ := h
  have hc := vcell hz
  obtain ⟨A, c, rfl, -, -⟩ := Kd.R_reads hR
  have HR := Lib.hid hR
  clear hR hz
  go_enter Try.func26, Try.ntmps26
  go_wp2_with fail
  refine (copyints_c base _ xs _ HR.out hx).mono ?_
  rintro e_ w1 ⟨u, rfl, hR1, hB1⟩
  obtain ⟨A1, c1, rfl, -, -⟩ := Kd.R_reads hR1
  have HR1 := Lib.hid hR1
  clear hR1
  go_wp2
  go_returns
  exact ⟨_, rfl, HR1.out, hB1⟩
set_option maxHeartbeats 1000000 in
theorem rbcopy_no (b f : Option Addr) (w : World) (h : b = none ∨ f = none) : Calls Try.prog 21 #[.pointer b, .pointer f] w fun e w' => e = .returned (.pointer none) ∧ w' = w := by
  cases b with
  | none =>
    clear h
    go_enter Try.func21, Try.ntmps21
    go_wp2
    go_returns
    exact ⟨rfl, rfl⟩
  | some b =>
    obtain rfl : f = none := by simpa using h
    clear h
    go_enter Try.func21, Try.ntmps21
    go_wp2
    go_returns
    exact ⟨rfl, rfl⟩
set_option maxHeartbeats 1000000 in
theorem rbcopy_c (base b f f2 : Nat) (o : Option Nat) (xs : List Int) (w : World) (h : NR w base b f o xs) (hx : xs.length ≤ 100000) (hbase : base ≤ w.heap.size) :
    Calls Try.prog 21 #[.pointer (some ⟨b, 0, none⟩), .pointer (some ⟨f2, 0, none⟩)] w fun e w' => ∃ b2 o2, e = .returned (.pointer (some ⟨b2, 0, none⟩)) ∧ w.heap.size ≤ b2 ∧ (∀ g, o2 = some g → w.heap.size ≤ g) ∧ NR w' base b2 f2 o2 xs ∧ Below w.heap.size w w' := by
  obtain ⟨v, hv, hz, hR⟩ := h
  have hc := vcell hz
  obtain ⟨A, c, rfl, -, -⟩ := Kd.R_reads hR
  have HR := Lib.hid hR
  clear hR hz
  go_enter Try.func21, Try.ntmps21
  go_wp2_with fail
  refine (copyints_c base _ xs _ HR.out hx).mono ?_
  rintro e_ w1 ⟨u, rfl, hR1, hB1⟩
  obtain ⟨A1, c1, rfl, -, -⟩ := Kd.R_reads hR1
  have HR1 := Lib.hid hR1
  clear hR1
  have hs1 := hB1.size
  go_wp2
  go_returns
  exact ⟨_, (Value.slice A1 xs.length c1).ownBlock, rfl, hs1, fun g hg => ((Kd.R_bound HR1.out).1 g hg).2.1, ⟨_, rfl, vnew, Kd.R_lower (Kd.R_below HR1.out (by go_grown)) hbase⟩, below_then hB1 (by go_grown)⟩
end Go.Proofs.Ytecneikblkjgoaa
