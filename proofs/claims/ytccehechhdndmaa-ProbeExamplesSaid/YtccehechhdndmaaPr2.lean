/- The contracts of probe.Health: New, Fails, Sick, Tell. -/
import Derived.Test.YtccehechhdndmaaBase
import Derived.Test.YtccehechhdndmaaSep
import Derived.Test.YtccehechhdndmaaSepB
import Derived.Test.YtccehechhdndmaaProg
import Derived.Lib.Hide
import Derived.Test.YtccehechhdndmaaPr0
import Derived.Test.YtccehechhdndmaaPr1
import Derived.WideKeyEntry
import Derived.Maps.OwnSet
namespace Go.Proofs.Ytccehechhdndmaa
open Go.RowKit
set_option linter.unusedSimpArgs false
set_option linter.unusedVariables false

abbrev MT : TypeId := 78
noncomputable abbrev RE : Value → Option (DataW Unit × List MemPlace) := plainElem Try.prog 3
theorem zeroE (w : World) : (zeroValue 3).run Try.prog w = .ok (.int .i64 0) w := by kernel_rfl
/-- Block b is a map of at most n entries that holds f. -/
def MZ (w : World) (b n : Nat) (f : Tok → Nat) : Prop := ∃ D, w.ownsMap Try.prog 32 RE b n D ∧ mapF D f ∧ ∀ t, f t ≤ n
/-- Block p is a health over the map b that holds f. -/
def HZ (w : World) (p b n : Nat) (f : Tok → Nat) : Prop := p ≠ b ∧ w.heap[p]? = some (.cells #[.map (some b)] 80 (0, 0)) ∧ MZ w b n f
theorem MZ.lt {w : World} {b n : Nat} {f : Tok → Nat} (h : MZ w b n f) : b < w.heap.size := by obtain ⟨D, h, -⟩ := h; exact h.lt
theorem MZ.at {w w' : World} {b n : Nat} {f : Tok → Nat} (h : MZ w b n f) (k : w'.heap[b]? = w.heap[b]?) : MZ w' b n f := by
  obtain ⟨D, ⟨es, clock, hb, r⟩, q⟩ := h; exact ⟨D, ⟨es, clock, k.trans hb, r⟩, q⟩
theorem HZ.keep {w w' : World} {p b n : Nat} {f : Tok → Nat} (h : HZ w p b n f) (k : ∀ i, (i = p ∨ i = b) → w'.heap[i]? = w.heap[i]?) : HZ w' p b n f :=
  ⟨h.1, (k p (Or.inl rfl)).trans h.2.1, h.2.2.at (k b (Or.inr rfl))⟩
def hz (p n : Nat) (f : Tok → Nat) : HP := fun w S => ∃ b, HZ w p b n f ∧ S = fun k => k = p ∨ k = b
theorem hz_loc (p n : Nat) (f : Tok → Nat) : Loc (hz p n f) where
  keep := fun ⟨b, h, e⟩ k => ⟨b, h.keep (fun i hi => k i (by rw [e]; exact hi)), e⟩
  lt := fun ⟨b, h, e⟩ k => by subst e; exact k.elim (fun q => q ▸ vlt h.2.1) (fun q => q ▸ h.2.2.lt)

/-- 'm[t]' with t wf. -/
theorem mz_look {w : World} {b n : Nat} {f : Tok → Nat} (h : MZ w b n f) {t : Tok} (ht : tokW t) : (Instr.lookup MT (.map (some b)) (tokV t) false).run Try.prog w = .ok (.int .i64 (f t)) w := by
  obtain ⟨D, h1, h2, -⟩ := h
  obtain ⟨c, hr, ha, -⟩ := h1.lookup_int tok_law Try.underlying78 Try.underlying3 (zeroE w) (tok_key ht)
  rw [h2 t ht] at ha
  simp at ha
  rw [hr, ha]
theorem setBlock_twice (w : World) (b : Nat) (x y : Obj) : ChangeMaps.setBlock (ChangeMaps.setBlock w b x) b y = ChangeMaps.setBlock w b y := by
  simp [ChangeMaps.setBlock]
theorem modify_same {α : Type} (es : Array α) (g : α → α) (j : Nat) (e : α) (h : es.toList[j]? = some e) (hg : g e = e) : es.modify j g = es := by
  apply Array.ext
  · simp
  · intro i h1 h2
    rw [Array.getElem_modify]
    split
    · rename_i q
      subst q
      have : es[j] = e := by
        have := Array.getElem?_eq_some_iff.1 (show es[j]? = some e by simpa using h)
        exact this.2
      rw [this, hg]
    · rfl
theorem entry_update {w : World} {b : Nat} {es : Array MapEntry} {clock : Nat} (hb : w.heap[b]? = some (.map es clock)) (F : WideElems.Fit Try.prog 32 RE es clock) {key : Value} {kl : Lit} (hkey : keyOf Try.prog 32 key = some kl) :
    ∃ v0 st w1, (Instr.mapEntry MT (.map (some b)) key).run Try.prog w = .ok (.tuple #[v0, goInt st]) w1 ∧ (Instr.mapUpdate MT (.map (some b)) key v0).run Try.prog w = .ok () w1 ∧ (Instr.lookup MT (.map (some b)) key false).run Try.prog w = .ok v0 w := by
  have hu := run_underlying (w := w) Try.underlying78
  have hk := fun em => tok_law.check w em hkey
  have hz := zeroE
  have hg := MapKept.run_getObj_map (P := Try.prog) hb
  rcases tok_law.find w hkey es.toList F.keys with ⟨h1, -⟩ | ⟨j, e0, h1, h2, h3⟩
  · refine ⟨.int .i64 0, clock, ChangeMaps.setBlock w b (.map (es.push ⟨key, .int .i64 0, clock⟩) (clock + 1)), ?_, ?_, ?_⟩
    · simp [Instr.mapEntry, hu, hg, hk, h1, hz, MapKept.run_setObj_map _ hb, Result.andThen, ChangeMaps.setBlock]
    · simp [Instr.mapUpdate, hu, hg, hk, h1, MapKept.run_setObj_map _ hb, Result.andThen, ChangeMaps.setBlock]
    · simp [Instr.lookup, hu, hg, hk, h1, hz, Result.andThen]
  · have s := tok_law.stays w hkey
    have hj : es[j]? = some e0 := by simpa using h2
    have m1 : es.modify j (fun e => { e with key := key }) = es := modify_same _ _ _ e0 h2 (by rw [← h3])
    have m2 : es.modify j (fun e => { e with key := key, val := e0.val }) = es := modify_same _ _ _ e0 h2 (by rw [← h3])
    refine ⟨e0.val, e0.born, ChangeMaps.setBlock w b (.map es clock), ?_, ?_, ?_⟩
    · simp [Instr.mapEntry, hu, hg, hk, h1, hj, h3, s, m1, MapKept.run_setObj_map _ hb, Result.andThen, ChangeMaps.setBlock]
    · simp [Instr.mapUpdate, hu, hg, hk, h1, hj, h3, s, m2, MapKept.run_setObj_map _ hb, Result.andThen, ChangeMaps.setBlock]
    · simp [Instr.lookup, hu, hg, hk, h1, Result.andThen]
/-- 'm[t] = v' by an entry. -/
theorem mz_entry {w : World} {b n : Nat} {f : Tok → Nat} (h : MZ w b n f) (hn : n < 1099511627776) {t : Tok} (ht : tokW t) (k : Nat) (hk : k ≤ n + 1) :
    ∃ v0 st w1 w2, (Instr.mapEntry MT (.map (some b)) (tokV t)).run Try.prog w = .ok (.tuple #[v0, goInt st]) w1 ∧ w.mapTurned w1 b ∧ (Instr.entryStore MT (.map (some b)) (goInt st) (.int .i64 k)).run Try.prog w1 = .ok () w2 ∧ w.mapTurned w2 b ∧
      MZ w2 b (n + 1) (fun x => if x = t then k else f x) ∧ MZ w1 b (n + 1) f := by
  have hl0 := mz_look h ht
  obtain ⟨D, h1, h2, h3⟩ := h
  have h1' := h1
  obtain ⟨w', hu, ho, hm⟩ := h1.store tok_law Try.underlying78 (Nat.lt_of_lt_of_le hn (by unfold maxLen; omega)) (tok_key ht) (plainElem_int Try.underlying3 (a := (k : Int)) (WalkArith.wf_i64 (by omega)))
  have hD : Maps.IsMap D := by obtain ⟨_, _, _, _, _, e⟩ := h1; exact ⟨_, e⟩
  obtain ⟨es, clock, hb, F, hs, hD2⟩ := h1
  obtain ⟨v0, st, es1, clock1, r1, -, r2⟩ := WideElems.entry_then_store tok_law0 Try.underlying78 zeroE hb F (tok_key ht)
  have hb1 : (ChangeMaps.setBlock w b (.map es1 clock1)).heap[b]? = some (.map es1 clock1) := ChangeMaps.heap_setBlock_same hb _
  obtain ⟨es', clock', s1, s2⟩ := r2 (ChangeMaps.setBlock w b (.map es1 clock1)) (.int .i64 k) hb1
  rw [setBlock_twice] at s1
  have e := s2.symm.trans hu
  simp only [Result.ok.injEq, true_and] at e
  subst e
  obtain ⟨u0, st', u1, k1, k2, k3⟩ := entry_update hb F (tok_key ht)
  rw [r1] at k1
  simp only [Result.ok.injEq] at k1
  obtain ⟨k1, rfl⟩ := k1
  simp only [Value.tuple.injEq, Array.mk.injEq, List.cons.injEq] at k1
  obtain ⟨rfl, -⟩ := k1
  rw [hl0] at k3
  simp only [Result.ok.injEq, and_true] at k3
  subst k3
  have hz : MZ (ChangeMaps.setBlock w b (.map es1 clock1)) b (n + 1) f := by
    obtain ⟨w'', hu2, ho2, -⟩ := h1'.store tok_law Try.underlying78 (Nat.lt_of_lt_of_le hn (by unfold maxLen; omega)) (tok_key ht) (plainElem_int Try.underlying3 (a := (f t : Int)) (WalkArith.wf_i64 (by have := h3 t; omega)))
    have e := k2.symm.trans hu2
    simp only [Result.ok.injEq, true_and] at e
    subst e
    refine ⟨_, ho2, ?_, fun x => Nat.le_succ_of_le (h3 x)⟩
    have := mapF_put h2 hD ht (f t)
    intro x hx
    rw [this x hx]
    by_cases q : x = t
    · subst q; simp
    · simp [q]
  refine ⟨_, st, _, _, r1, ⟨es, clock, es1, clock1, hb, rfl⟩, s1, hm, ⟨_, ho, mapF_put h2 hD ht k, fun x => by by_cases q : x = t <;> simp [q] <;> first | exact hk | exact Nat.le_succ_of_le (h3 x)⟩, hz⟩
set_option maxHeartbeats 400000 in
theorem pnew_c (w : World) : Calls Try.prog 21 #[] w fun e w' => ∃ p b, e = .returned (.pointer (some ⟨p, 0, none⟩)) ∧ w.heap.size ≤ p ∧ w.heap.size ≤ b ∧ HZ w' p b 0 (fun _ => 0) ∧ Below w.heap.size w w' := by
  have hmm := @run_makeMap Try.prog
  go_enter Try.func21, Try.ntmps21
  go_wp2
  go_returns
  exact ⟨_, w.heap.size, rfl, by omega, Nat.le_refl _, ⟨by omega, vnewAt (by simp), ⟨.map [], (World.ownsMap_made w _ _ _).alloc _, mapF_empty, fun _ => Nat.le_refl _⟩⟩, by go_grown⟩
set_option maxHeartbeats 400000 in
theorem fails_c (p b n : Nat) (f : Tok → Nat) (t : Tok) (w : World) (h : HZ w p b n f) (ht : tokW t) : Calls Try.prog 29 #[.pointer (some ⟨p, 0, none⟩), tokV t] w fun e w' => e = .returned (.int .i64 (f t)) ∧ Below w.heap.size w w' := by
  obtain ⟨h0, h1, h2⟩ := h
  have e : (w.alloc (.cells #[.int .i64 t.a, .int .i64 t.b, .int .i64 t.c] 32)).heap[b]? = w.heap[b]? := (MapKept.heap_alloc w _).2 b h2.lt
  have hl := fun nq => mz_look (w := (w.alloc (.cells #[.int .i64 t.a, .int .i64 t.b, .int .i64 t.c] 32)).drewN nq) (h2.at e) ht
  have hc := vcell h1
  have hp := vlt h1
  clear h1 h2 e
  simp only [tokV] at hl ⊢
  go_enter Try.func29, Try.ntmps29
  go_wp2
  go_quiet (fail)
  go_wp2
  go_returns
  exact ⟨rfl, below_drewN (by go_grown) _⟩
def sickB (n : Nat) (k : Int) : Bool := decide (0 < k) && decide (k ≤ (n : Int))
set_option maxHeartbeats 400000 in
theorem sick_c (p b n : Nat) (f : Tok → Nat) (t : Tok) (k : Int) (w : World) (h : HZ w p b n f) (ht : tokW t) : Calls Try.prog 31 #[.pointer (some ⟨p, 0, none⟩), tokV t, .int .i64 k] w fun e w' => e = .returned (.bool (sickB (f t) k)) ∧ Below w.heap.size w w' := by
  obtain ⟨h0, h1, h2⟩ := h
  have e : (w.alloc (.cells #[.int .i64 t.a, .int .i64 t.b, .int .i64 t.c] 32)).heap[b]? = w.heap[b]? := (MapKept.heap_alloc w _).2 b h2.lt
  have hl := fun nq => mz_look (w := (w.alloc (.cells #[.int .i64 t.a, .int .i64 t.b, .int .i64 t.c] 32)).drewN nq) (h2.at e) ht
  have hc := vcell h1
  have hp := vlt h1
  clear h1 h2 e
  simp only [tokV] at hl ⊢
  by_cases hk : 0 < k
  · rw [show sickB (f t) k = decide (k ≤ (f t : Int)) by unfold sickB; simp [hk]]
    generalize f t = m at *
    go_enter Try.func31, Try.ntmps31
    go_wp2
    go_quiet (fail)
    go_wp2
    go_returns
    exact ⟨by first | rfl | simp, below_drewN (by go_grown) _⟩
  · rw [show sickB (f t) k = false by unfold sickB; simp [hk]]
    generalize f t = m at *
    have hk2 : decide (0 < k) = false := by simpa using hk
    go_enter Try.func31, Try.ntmps31
    go_wp2
    go_quiet (fail)
    go_wp2
    go_returns
    exact ⟨by first | rfl | simp, below_drewN (by go_grown) _⟩
theorem mz_del {w : World} {b n : Nat} {f : Tok → Nat} (h : MZ w b n f) {t : Tok} (ht : tokW t) (ty : TypeId) :
    ∃ w2, (Builtin.delete_ #[MT, 32] ty #[.map (some b), tokV t]).run Try.prog w = .ok (.tuple #[]) w2 ∧ w.mapTurned w2 b ∧ MZ w2 b n (fun x => if x = t then 0 else f x) := by
  obtain ⟨D, h1, h2, h3⟩ := h
  obtain ⟨w', hu, ho, hm⟩ := h1.drop tok_law Try.underlying78 (tok_key ht) ty
  exact ⟨w', hu, hm, _, ho, mapF_del h2 ht, fun x => by by_cases q : x = t <;> simp [q, h3 x]⟩
theorem Chg.of_turned {S : Nat → Prop} {w w' : World} {b : Nat} (h : w.mapTurned w' b) (hS : S b) : Chg S w w' := Chg.of_grown h.grown (fun k hk => by cases hk; exact hS)
theorem Chg.of_drew {S : Nat → Prop} {w w' : World} (h : Chg S w.drew w') : Chg S w w' := ⟨h.os, h.tape, h.output, h.size, h.block⟩
set_option maxHeartbeats 400000 in
theorem tell_no (p : Option Addr) (t : Tok) (ok : Bool) (w : World) (hv : tokOk t = false) (hp : p ≠ none) : Calls Try.prog 27 #[.pointer p, tokV t, .bool ok] w fun e w' => e = .returned (.int .i64 3) ∧ Below w.heap.size w w' := by
  obtain ⟨p, rfl⟩ := Option.ne_none_iff_exists'.1 hp
  clear hp
  have hE : tokE t = 3 := by unfold tokE; rw [hv]; rfl
  have hch := check_c t
  rw [hE] at hch
  clear hE hv
  simp only [tokV] at hch ⊢
  go_enter Try.func27, Try.ntmps27
  go_wp2_with fail
  refine (hch _).mono ?_
  rintro e_ w1 ⟨rfl, hb⟩
  have hB := below_then (w := w) (by go_grown) hb
  go_wp2
  go_returns
  exact ⟨rfl, hB⟩
set_option maxHeartbeats 1000000 in
theorem tell_yes (p b n : Nat) (f : Tok → Nat) (t : Tok) (w : World) (h : HZ w p b n f) (ht : tokW t) (hv : tokOk t = true) :
    Calls Try.prog 27 #[.pointer (some ⟨p, 0, none⟩), tokV t, .bool true] w fun e w' => e = .returned (.int .i64 0) ∧ HZ w' p b n (fun x => if x = t then 0 else f x) ∧ Chg (fun k => k = p ∨ k = b) w w' := by
  have hE : tokE t = 0 := by unfold tokE; rw [hv]; rfl
  have hch := check_c t
  rw [hE] at hch
  clear hE hv
  have hp := vlt h.2.1
  have hbz := h.2.2.lt
  have H := Lib.hid h
  clear h
  simp only [tokV] at hch ⊢
  go_enter Try.func27, Try.ntmps27
  go_wp2_with fail
  refine (hch _).mono ?_
  rintro e_w1 w1 ⟨rfl, hbw1⟩
  have hBw1 : Below w.heap.size w w1 := below_then (by go_grown) hbw1
  have A_w1 : w1.heap[w.heap.size]? = some (.cells #[.int .i64 t.a, .int .i64 t.b, .int .i64 t.c] 32 (0, 0)) := vbelow (by (repeat' (first | assumption | (refine vnewAt ?_; first | omega | (simp; done) | (simp; omega)) | refine valloc ?_ | refine vdrew ?_ | apply vput | (refine vfarr ?_ ?_; focus (first | omega | (simp; done) | (simp; omega))) | rfl))) hbw1
  have hcA_w1 := vcell A_w1
  have hfA_w1 := vfree A_w1
  have hsA_w1 := vlt A_w1
  have hlA_w1 := Nat.le_of_lt hsA_w1
  have hmA_w1 := Nat.le_succ_of_le hlA_w1
  have h1 : HZ w1 p b n f := H.out.keep (fun i hi => hBw1.block i (by rcases hi with rfl | rfl <;> assumption))
  obtain ⟨g0, g1, g2⟩ := h1
  obtain ⟨w2, hd, hm, g3⟩ := mz_del (w := w1.drew) g2 ht 0
  simp only [tokV] at hd
  have hc1 := vcell g1
  have g4 : HZ w2 p b n (fun x => if x = t then 0 else f x) := ⟨g0, ((hm.grown.block p (vlt g1) (by simpa using g0))).trans g1, g3⟩
  have hC : Chg (fun k => k = p ∨ k = b) w w2 := (Chg.of_below hBw1).trans ((Chg.of_turned hm (Or.inr rfl)).of_drew)
  clear g1 g2 g3 hm H
  go_wp2
  go_region
  go_wp2
  go_returns
  exact ⟨rfl, g4, hC⟩
set_option maxHeartbeats 1000000 in
theorem tell_fail (p b n : Nat) (f : Tok → Nat) (t : Tok) (w : World) (h : HZ w p b n f) (ht : tokW t) (hv : tokOk t = true) (hn : n < 1099511627776) :
    Calls Try.prog 27 #[.pointer (some ⟨p, 0, none⟩), tokV t, .bool false] w fun e w' => e = .returned (.int .i64 0) ∧ HZ w' p b (n + 1) (fun x => if x = t then f t + 1 else f x) ∧ Chg (fun k => k = p ∨ k = b) w w' := by
  have hE : tokE t = 0 := by unfold tokE; rw [hv]; rfl
  have hch := check_c t
  rw [hE] at hch
  clear hE hv
  have hp := vlt h.2.1
  have hbz := h.2.2.lt
  have hft : f t ≤ n := by obtain ⟨_, _, D, _, _, h3⟩ := h; exact h3 t
  have H := Lib.hid h
  clear h
  simp only [tokV] at hch ⊢
  go_enter Try.func27, Try.ntmps27
  go_wp2_with fail
  refine (hch _).mono ?_
  rintro e_w1 w1 ⟨rfl, hbw1⟩
  have hBw1 : Below w.heap.size w w1 := below_then (by go_grown) hbw1
  have A_w1 : w1.heap[w.heap.size]? = some (.cells #[.int .i64 t.a, .int .i64 t.b, .int .i64 t.c] 32 (0, 0)) := vbelow (by (repeat' (first | assumption | (refine vnewAt ?_; first | omega | (simp; done) | (simp; omega)) | refine valloc ?_ | refine vdrew ?_ | apply vput | (refine vfarr ?_ ?_; focus (first | omega | (simp; done) | (simp; omega))) | rfl))) hbw1
  have hcA_w1 := vcell A_w1
  have hfA_w1 := vfree A_w1
  have hsA_w1 := vlt A_w1
  have hlA_w1 := Nat.le_of_lt hsA_w1
  have hmA_w1 := Nat.le_succ_of_le hlA_w1
  have h1 : HZ w1 p b n f := H.out.keep (fun i hi => hBw1.block i (by rcases hi with rfl | rfl <;> assumption))
  obtain ⟨g0, g1, g2⟩ := h1
  have hl := mz_look (w := w1.drew) g2 ht
  obtain ⟨v0, st, w2, w3, e1, m1, e2, m2, g3, gz⟩ := mz_entry (w := w1.drew) g2 hn ht (f t + 1) (by omega)
  have hl2 := mz_look gz ht
  have hc1 := vcell g1
  have g4 : HZ w3 p b (n + 1) (fun x => if x = t then f t + 1 else f x) := ⟨g0, ((m2.grown.block p (vlt g1) (by simpa using g0))).trans g1, g3⟩
  have hC : Chg (fun k => k = p ∨ k = b) w w3 := (Chg.of_below hBw1).trans ((Chg.of_turned m2 (Or.inr rfl)).of_drew)
  have hpw : p < w1.heap.size := vlt g1
  have hc2 : w2.cell? ⟨p, 0, none⟩ = some (.map (some b)) := m1.grown.cell (a := ⟨p, 0, none⟩) (hc1 0) (by simpa using g0)
  have hcA2 : ∀ j, w2.cell? ⟨w.heap.size, j, none⟩ = (#[.int .i64 t.a, .int .i64 t.b, .int .i64 t.c] : Array Value)[j]? := vcell ((m1.grown.block w.heap.size hsA_w1 (by simp; omega)).trans A_w1)
  clear g1 g2 g3 gz m1 m2 H
  generalize hm_ : f t = m at *
  have hm2 : m < 1099511627776 := by omega
  clear hn hft
  simp only [tokV, goInt] at hl hl2 e1 e2
  rw [show ((m + 1 : Nat) : Int) = (m : Int) + 1 from rfl] at e2
  go_wp2
  go_region
  go_wp2
  go_returns
  exact ⟨rfl, by rw [hm_]; exact g4, hC⟩
end Go.Proofs.Ytccehechhdndmaa
