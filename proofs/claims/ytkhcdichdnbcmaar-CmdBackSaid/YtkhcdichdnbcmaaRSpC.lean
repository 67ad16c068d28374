/- The contract of spec.Check. -/
import Derived.Test.YtkhcdichdnbcmaaRBase
import Derived.Test.YtkhcdichdnbcmaaRSp0
import Derived.Test.YtkhcdichdnbcmaaRSpA
import Derived.Test.YtkhcdichdnbcmaaRSpB
import Derived.Test.YtkhcdichdnbcmaaRProg
import Derived.Lib.Hide
import Derived.Shelf.Abstract
import Derived.Test.YtkhcdichdnbcmaaRWWords
namespace Go.Proofs.YtkhcdichdnbcmaaR
open Go.RowKit Go.Shelf Go.Proofs.YtkhcdichdnbcmaaRW.PrintWords Go.Proofs.YtkhcdichdnbcmaaR.Sp
set_option linter.unusedSimpArgs false
set_option linter.unusedVariables false

theorem fnV_one (x : Nat × Nat) : (fnV x).oneCell' = true := rfl
def kF : Kd (Nat × Nat) := Kd.scalar fnV fnV_one
theorem info_fn : (Try.prog.info? 75).map (fun i => (i.zero, i.size, i.bytes)) = some (some .nilFunc, 1, 8) := by kernel_rfl
theorem ent1 : Enters Try.prog 78 := enters_of Try.func78 (by kernel_rfl) rfl
theorem ent2 : Enters Try.prog 80 := enters_of Try.func80 (by kernel_rfl) rfl
theorem ent3 : Enters Try.prog 82 := enters_of Try.func82 (by kernel_rfl) rfl
theorem ent4 : Enters Try.prog 84 := enters_of Try.func84 (by kernel_rfl) rfl
theorem ent5 : Enters Try.prog 85 := enters_of Try.func85 (by kernel_rfl) rfl
theorem ent6 : Enters Try.prog 87 := enters_of Try.func87 (by kernel_rfl) rfl
def cT (t : TS) : Array Value := #[.bool t.always, .int .i64 t.limit, .int .i64 t.window, .int .i64 t.base, .int .i64 t.most, .int .i64 t.probes]
def fs4 (B : Nat) : List (Nat × Nat) := [(78, B), (80, B), (82, B), (84, B)]
def fs2 (b : Nat) : List (Nat × Nat) := [(85, b), (87, b)]
/-- The closures after k tasks, and what they close over. -/
structure CkI (w0 w : World) (cs : Array Value) (ts : List TS) (bs : List Nat) (k : Nat) (v : Value) : Prop where
  len : bs.length = k
  row : kF.R 75 w w0.heap.size (fun g => g ≠ w0.heap.size ∧ g ∉ bs) v (fs4 w0.heap.size ++ bs.flatMap fs2)
  box : w.heap[w0.heap.size]? = some (Obj.cells cs 27 (0, 0))
  tsk : ∀ i b, bs[i]? = some b → w.heap[b]? = some (Obj.cells (cT (tsAt ts i)) 90 (0, 0))
  bel : Below w0.heap.size w0 w
def CkE (w0 w : World) (cs : Array Value) (ts : List TS) (k : Nat) (v : Value) : Prop := ∃ bs, CkI w0 w cs ts bs k v
theorem C_lit2 {W : World} {B : Nat} {t : TypeId} (p q : Nat × Nat) (h : W.heap[B]? = some (Obj.cells #[fnV p, fnV q] t (0, 0))) : kF.C W (some ⟨B, 0, none⟩) 2 [p, q] := by
  refine Kd.C_of_reads (d := (0, 0)) ⟨rfl, by decide, fun _ => ⟨_, rfl, fun j hj => ?_⟩⟩
  have hc := vcell h j
  have ha : (Addr.mk B 0 none).add j = ⟨B, j, none⟩ := by unfold Addr.add; split <;> simp_all
  rw [ha, hc]
  match j, hj with
  | 0, _ => rfl
  | 1, _ => rfl
/-- One task more: its box, the two closures, and what append makes. -/
theorem CkI.next {w0 w w3 : World} {cs : Array Value} {ts : List TS} {bs : List Nat} {k : Nat} {v v1 : Value} {o : Obj} (h : CkI w0 w cs ts bs k v) (hg : ((w.alloc (Obj.cells (cT (tsAt ts k)) 90)).alloc o).grownBy w3 v.ownBlock)
    (hR : kF.R 75 w3 w0.heap.size (fun g => (g ≠ w0.heap.size ∧ g ∉ bs) ∧ g ≠ w.heap.size) v1 (fs4 w0.heap.size ++ bs.flatMap fs2 ++ fs2 w.heap.size)) (hB : Below w0.heap.size w0 w3) : CkI w0 w3 cs ts (bs ++ [w.heap.size]) (k + 1) v1 := by
  have hb1 : Below w.heap.size w ((w.alloc (Obj.cells (cT (tsAt ts k)) 90)).alloc o) := by go_grown
  refine ⟨by simp [h.len], ?_, ?_, ?_, hB⟩
  · refine Kd.R_mono (v := v1) ?_ (fun g hg => ?_) (ok := fun g => (g ≠ w0.heap.size ∧ g ∉ bs) ∧ g ≠ w.heap.size)
    · simpa using hR
    · exact ⟨hg.1.1, by simp; exact ⟨hg.1.2, hg.2⟩⟩
  · have h1 := (hb1.block _ (vlt h.box)).trans h.box
    exact (hg.block _ (vlt h1) (fun e => (h.row.1 _ e.symm).1 rfl)).trans h1
  · intro i b hi
    rw [List.getElem?_append] at hi
    split at hi
    · have h0 := h.tsk i b hi
      have h1 := (hb1.block _ (vlt h0)).trans h0
      exact (hg.block _ (vlt h1) (fun e => (h.row.1 _ e.symm).2 (List.mem_of_getElem? hi))).trans h1
    · rename_i hlt
      have hik : i = k ∧ b = w.heap.size := by
        have := h.len
        cases e : i - bs.length with
        | zero => rw [e] at hi; simp at hi; exact ⟨by omega, hi.symm⟩
        | succ n => rw [e] at hi; simp at hi
      obtain ⟨rfl, rfl⟩ := hik
      have h1 : ((w.alloc (Obj.cells (cT (tsAt ts i)) 90)).alloc o).heap[w.heap.size]? = some (Obj.cells (cT (tsAt ts i)) 90 (0, 0)) := valloc vnew
      exact (hg.block _ (vlt h1) (fun e => by have := Kd.R_lt h.row _ e.symm; omega)).trans h1
theorem fs2_at (bs : List Nat) (i : Nat) (hi : i < bs.length) : fnAt (bs.flatMap fs2) (2 * i) = (85, bs.getD i 0) ∧ fnAt (bs.flatMap fs2) (2 * i + 1) = (87, bs.getD i 0) := by
  induction bs generalizing i with
  | nil => simp at hi
  | cons b bs ih =>
    cases i with
    | zero => simp [fnAt, fs2]
    | succ i =>
      have := ih i (by simpa using hi)
      simp only [fnAt] at *
      rw [List.flatMap_cons, show 2 * (i + 1) = 2 * i + 2 by omega]
      simpa [fs2, List.getD_eq_getElem?_getD] using this
theorem taskE_at (ts : List TS) (i : Nat) (hi : i < ts.length) : (ts.flatMap taskE).getD (2 * i) 0 = polE (tsAt ts i).limit (tsAt ts i).window (tsAt ts i).base (tsAt ts i).most ∧ (ts.flatMap taskE).getD (2 * i + 1) 0 = rangeE (tsAt ts i).probes 0 1000 := by
  induction ts generalizing i with
  | nil => simp at hi
  | cons b bs ih =>
    cases i with
    | zero => simp [tsAt, taskE]
    | succ i =>
      have := ih i (by simpa using hi)
      simp only [tsAt] at *
      rw [List.flatMap_cons, show 2 * (i + 1) = 2 * i + 2 by omega]
      simpa [taskE, List.getD_eq_getElem?_getD] using this
theorem flat2_len {α β : Type} (f : α → List β) (h : ∀ a, (f a).length = 2) (l : List α) : (l.flatMap f).length = 2 * l.length := by
  induction l with
  | nil => rfl
  | cons a l ih => rw [List.flatMap_cons, List.length_append, ih, h, List.length_cons]; omega
theorem CkI.lt {w0 w : World} {cs : Array Value} {ts : List TS} {bs : List Nat} {k : Nat} {v : Value} (h : CkI w0 w cs ts bs k v) {b : Nat} (hb : b ∈ bs) : b < w.heap.size := by
  obtain ⟨i, hi⟩ := List.mem_iff_getElem?.1 hb
  exact vlt (h.tsk i b hi)
theorem CkI.fresh {w0 w : World} {cs : Array Value} {ts : List TS} {bs : List Nat} {k : Nat} {v : Value} (h : CkI w0 w cs ts bs k v) {g : Nat} (hg : w.heap.size + 2 ≤ g) : (g ≠ w0.heap.size ∧ g ∉ bs) ∧ g ≠ w.heap.size := by
  have := vlt h.box
  exact ⟨⟨by omega, fun q => by have := h.lt q; omega⟩, by omega⟩
theorem CkI.flen {w0 w : World} {cs : Array Value} {ts : List TS} {bs : List Nat} {k : Nat} {v : Value} (h : CkI w0 w cs ts bs k v) : (fs4 w0.heap.size ++ bs.flatMap fs2).length = 4 + 2 * k := by
  rw [List.length_append, flat2_len fs2 (fun _ => rfl), h.len]; rfl
/-- The end: ask over what was gathered. -/
theorem CkI.ask {w0 w : World} {id cpu mem disk : Int} {PA TA : Option Addr} {pn pc tn tc : Nat} {ps : List Int} {ts : List TS} {bs : List Nat} {k : Nat} {v : Value}
    (h : CkI w0 w #[.int .i64 id, .int .i64 cpu, .int .i64 mem, .int .i64 disk, .slice PA pn pc, .slice TA tn tc] ts bs k v) (hpn : pn = ps.length) (hP : RowI w0 PA ps) (hpm : ps.length ≤ 9223372036854775807) (htn : tn = ts.length) (htm : tn ≤ 9223372036854775807) (hk : k = (ts.take 4).length) :
    Calls Try.prog 88 #[v] w fun e w' => e = .returned (.int .i64 (specE ⟨id, cpu, mem, disk, ps, ts⟩)) ∧ Below w.heap.size w w' := by
  have hne : 0 < (fs4 w0.heap.size ++ bs.flatMap fs2).length := by simp [fs4]
  have hlen : (fs4 w0.heap.size ++ bs.flatMap fs2).length = 4 + 2 * k := by rw [List.length_append, flat2_len fs2 (fun _ => rfl), h.len]; rfl
  have hk4 : k ≤ 4 := by rw [hk, List.length_take]; omega
  have hkt : k ≤ ts.length := by rw [hk, List.length_take]; omega
  obtain ⟨g, cap, rfl⟩ : ∃ g c, v = .slice (some ⟨g, 0, none⟩) (fs4 w0.heap.size ++ bs.flatMap fs2).length c := by
    have ho := Kd.own_of_R h.row
    obtain ⟨g, cap, e, _⟩ := ho.form hne
    exact ⟨g, cap, e⟩
  have hrl : ∀ j, j < (fs4 w0.heap.size ++ bs.flatMap fs2).length → w.cell? ⟨g, j, none⟩ = some (fnV (fnAt (fs4 w0.heap.size ++ bs.flatMap fs2) j)) := fun j hj => by
    have := (Kd.R_celln (0, 0) h.row (j : Int) (by omega) (by omega)).1
    rw [Int.toNat_natCast] at this
    simpa [rdOf, fnAt] using this
  have hg : g < w.heap.size := by
    have := World.block_lt_of_cell? _ _ (hrl 0 (by omega))
    simpa using this
  have hbs : ∀ i, i < k → ∃ b, bs[i]? = some b ∧ bs.getD i 0 = b := fun i hi => by
    have hi2 : i < bs.length := by rw [h.len]; exact hi
    exact ⟨bs[i], List.getElem?_eq_getElem hi2, by simp [hi2]⟩
  have hes : (askE ⟨id, cpu, mem, disk, ps, ts⟩).length = 4 + 2 * k := by unfold askE; rw [List.length_append, flat2_len taskE (fun _ => rfl), ← hk]; rfl
  have key : ∀ j, j < 4 + 2 * k → (j = 0 ∨ j = 1 ∨ j = 2 ∨ j = 3) ∨ ∃ i, i < k ∧ (j = 4 + 2 * i ∨ j = 4 + (2 * i + 1)) := fun j hj => by
    by_cases h4 : j < 4
    · exact .inl (by omega)
    · exact .inr ⟨(j - 4) / 2, by omega, by omega⟩
  have hA : ∀ j, fnAt (fs4 w0.heap.size ++ bs.flatMap fs2) (4 + j) = fnAt (bs.flatMap fs2) j := fun j => by simp [fnAt, fs4, List.getD_eq_getElem?_getD, Nat.add_comm 4 j]
  have hEE : ∀ j, (askE ⟨id, cpu, mem, disk, ps, ts⟩).getD (4 + j) 0 = ((ts.take 4).flatMap taskE).getD j 0 := fun j => by simp [askE, List.getD_eq_getElem?_getD, Nat.add_comm 4 j]
  refine ask_any g _ cap _ (askE ⟨id, cpu, mem, disk, ps, ts⟩) w rfl (by rw [hes, hlen]) (by rw [hlen]; omega) hg hrl ?_ ?_
  · intro j hj
    rw [hlen] at hj
    rcases key j hj with (rfl | rfl | rfl | rfl) | ⟨i, hi, rfl | rfl⟩
    · exact ent1
    · exact ent2
    · exact ent3
    · exact ent4
    · rw [hA, (fs2_at bs i (by rw [h.len]; exact hi)).1]; exact ent5
    · rw [hA, (fs2_at bs i (by rw [h.len]; exact hi)).2]; exact ent6
  · intro j hj W hW
    rw [hlen] at hj
    have hbox : W.heap[w0.heap.size]? = some (Obj.cells #[.int .i64 id, .int .i64 cpu, .int .i64 mem, .int .i64 disk, .slice PA pn pc, .slice TA tn tc] 27 (0, 0)) := (hW.block _ (vlt h.box)).trans h.box
    rcases key j hj with (rfl | rfl | rfl | rfl) | ⟨i, hi, rfl | rfl⟩
    · exact chk1_c _ _ _ _ _ _ _ _ hbox
    · exact chk2_c _ _ _ _ _ _ _ _ hbox
    · exact chk3_c _ _ _ _ _ _ _ _ _ ps _ hbox hpn (hP.below (below_then h.bel hW)) hpm
    · have hq := chk4_c _ _ _ _ _ _ _ _ _ _ hbox htm
      rw [htn] at hq
      exact hq
    · obtain ⟨b, hb1, hb2⟩ := hbs i hi
      have ht := h.tsk i b hb1
      have ht := (hW.block _ (vlt ht)).trans ht
      rw [hA, hEE, (fs2_at bs i (by rw [h.len]; exact hi)).1, (taskE_at _ i (by rw [← hk]; exact hi)).1, hb2]
      have e4 : tsAt (ts.take 4) i = tsAt ts i := by simp [tsAt, List.getD_eq_getElem?_getD, List.getElem?_take, show i < 4 by omega]
      rw [e4]
      exact chk5_c _ _ _ _ _ _ _ _ ht
    · obtain ⟨b, hb1, hb2⟩ := hbs i hi
      have ht := h.tsk i b hb1
      have ht := (hW.block _ (vlt ht)).trans ht
      rw [hA, hEE, (fs2_at bs i (by rw [h.len]; exact hi)).2, (taskE_at _ i (by rw [← hk]; exact hi)).2, hb2]
      have e4 : tsAt (ts.take 4) i = tsAt ts i := by simp [tsAt, List.getD_eq_getElem?_getD, List.getElem?_take, show i < 4 by omega]
      rw [e4]
      exact chk6_c _ _ _ _ _ _ _ _ ht

set_option maxHeartbeats 2000000 in
theorem scheck_few (id cpu mem disk : Int) (PA TA : Option Addr) (pn pc tn tc : Nat) (ps : List Int) (ts : List TS) (w : World) (hpn : pn = ps.length) (hP : RowI w PA ps) (hpm : ps.length ≤ 9223372036854775807) (htn : tn = ts.length) (hT : RowT w TA ts) (htm : tn ≤ 9223372036854775807) (htc : tn ≤ tc) (h4 : ¬ 4 < tn) :
    Calls Try.prog 54 #[.agg #[.int .i64 id, .int .i64 cpu, .int .i64 mem, .int .i64 disk, .slice PA pn pc, .slice TA tn tc]] w fun e w' => e = .returned (.int .i64 (specE ⟨id, cpu, mem, disk, ps, ts⟩)) ∧ Below w.heap.size w w' := by
  have HPN := Lib.hid hpn
  have HP := Lib.hid hP
  have HPM := Lib.hid hpm
  have HTN := Lib.hid htn
  have HT := Lib.hid hT
  clear hpn hP hpm htn hT
  go_enter Try.func54, Try.ntmps54
  go_wp2_with fail
  go_loopw [3, 5, 19] (fun v t i w' => ∃ k : Nat, k ≤ tn ∧ i = .int .i64 k ∧ CkE w w' #[.int .i64 id, .int .i64 cpu, .int .i64 mem, .int .i64 disk, .slice PA pn pc, .slice TA tn tc] ts k v) (fun _ _ i _ => tn - (intOf i).toNat)
  case atStart =>
    refine ⟨0, Nat.zero_le _, rfl, [], ⟨rfl, ?_, valloc vnew, fun i b hi => by simp at hi, by go_grown⟩⟩
    refine Kd.R_of_own ?_ (fun g hg => ⟨?_, by simp⟩)
    · have hz : (w.alloc (Obj.cells #[.int .i64 id, .int .i64 cpu, .int .i64 mem, .int .i64 disk, .slice PA pn pc, .slice TA tn tc] 27)).heap.size = w.heap.size + 1 := by simp
      have := World.ownsRow_lit (base := w.heap.size) (e := 75) (size := 1) (w.alloc (Obj.cells #[.int .i64 id, .int .i64 cpu, .int .i64 mem, .int .i64 disk, .slice PA pn pc, .slice TA tn tc] 27)) #[fnV (78, w.heap.size), fnV (80, w.heap.size), fnV (82, w.heap.size), fnV (84, w.heap.size)] 4 (by simp) (by decide) rfl
      rw [hz] at this
      exact this
    · simp [Value.ownBlock] at hg
      omega
  case round =>
    obtain ⟨k, hk, rfl, bs, hI⟩ := hrel
    by_cases hlt : k < tn
    · have hkt : k < ts.length := by have := HTN.out; omega
      obtain ⟨b, off, rfl, hb, hcells⟩ : ∃ b off, TA = some ⟨b, off, none⟩ ∧ b < w.heap.size ∧ _ := HT.out.resolve_left (by rintro rfl; simp at hkt)
      obtain ⟨x0, x1, x2, x3, x4, x5⟩ := hcells k hkt
      clear hcells
      have y0 := (hI.bel.cell (p := ⟨b, off + k * 6, none⟩) hb).trans x0
      have y1 := (hI.bel.cell (p := ⟨b, off + k * 6 + 1, none⟩) hb).trans x1
      have y2 := (hI.bel.cell (p := ⟨b, off + k * 6 + 2, none⟩) hb).trans x2
      have y3 := (hI.bel.cell (p := ⟨b, off + k * 6 + 3, none⟩) hb).trans x3
      have y4 := (hI.bel.cell (p := ⟨b, off + k * 6 + 4, none⟩) hb).trans x4
      have y5 := (hI.bel.cell (p := ⟨b, off + k * 6 + 5, none⟩) hb).trans x5
      clear x0 x1 x2 x3 x4 x5
      have HI := Lib.hid hI
      clear hI
      go_wp2_with (at_builtin; (refine Kd.R_append_row (w0 := w) fnV (0, 0) (h1 := fnV_one) w.heap.size rfl _ _ 119 75 .nilFunc 8 rfl Try.underlying119 info_fn rfl (by decide) _ (fs4 w.heap.size ++ bs.flatMap fs2) (fs2 wr.heap.size) (some ⟨wr.heap.size + 1, 0, none⟩) 2 2 (fun g => (g ≠ w.heap.size ∧ g ∉ bs) ∧ g ≠ wr.heap.size) rfl rfl ?fresh ?row ?src ?bel ?base ?len ?_); (case fresh => intro g hg; exact HI.out.fresh (by simpa using hg)); (case row => exact Kd.R_below (Kd.R_elderB HI.out.row wr.heap.size (Nat.le_refl _)) (by go_grown)); (case src => exact C_lit2 _ _ (vnewAt (by simp))); (case bel => exact below_alloc (below_alloc HI.out.bel _) _); (case base => have := HI.out.bel.size; simp; omega); (case len => rw [HI.out.flen]; omega); intro v1 w3 hR hB hg hat)
      have hN := HI.out.next hg hR hB
      clear hg hat hR hB HI
      go_roundw
      case rel => exact ⟨k + 1, by omega, by go_num, _, hN⟩
      case measure => simp [intOf]; omega
    · have hkm : k = (ts.take 4).length := by have := HTN.out; rw [List.length_take]; omega
      have HKM := Lib.hid hkm
      have HI := Lib.hid hI
      clear hI hkm
      go_wp2_with fail
      refine (HI.out.ask HPN.out HP.out HPM.out HTN.out htm HKM.out).mono ?_
      rintro e w1 ⟨rfl, hb1⟩
      have hB1 := below_then HI.out.bel hb1
      clear HI hb1
      go_wp2
      go_returns
      exact ⟨rfl, hB1⟩

set_option maxHeartbeats 2000000 in
theorem scheck_many (id cpu mem disk : Int) (PA TA : Option Addr) (pn pc tn tc : Nat) (ps : List Int) (ts : List TS) (w : World) (hpn : pn = ps.length) (hP : RowI w PA ps) (hpm : ps.length ≤ 9223372036854775807) (htn : tn = ts.length) (hT : RowT w TA ts) (htm : tn ≤ 9223372036854775807) (htc : tn ≤ tc) (h4 : 4 < tn) :
    Calls Try.prog 54 #[.agg #[.int .i64 id, .int .i64 cpu, .int .i64 mem, .int .i64 disk, .slice PA pn pc, .slice TA tn tc]] w fun e w' => e = .returned (.int .i64 (specE ⟨id, cpu, mem, disk, ps, ts⟩)) ∧ Below w.heap.size w w' := by
  have HPN := Lib.hid hpn
  have HP := Lib.hid hP
  have HPM := Lib.hid hpm
  have HTN := Lib.hid htn
  have HT := Lib.hid hT
  clear hpn hP hpm htn hT
  go_enter Try.func54, Try.ntmps54
  go_wp2_with fail
  go_loopw [3, 5, 19] (fun v t i w' => ∃ k : Nat, k ≤ 4 ∧ i = .int .i64 k ∧ CkE w w' #[.int .i64 id, .int .i64 cpu, .int .i64 mem, .int .i64 disk, .slice PA pn pc, .slice TA tn tc] ts k v) (fun _ _ i _ => 4 - (intOf i).toNat)
  case atStart =>
    refine ⟨0, Nat.zero_le _, rfl, [], ⟨rfl, ?_, valloc vnew, fun i b hi => by simp at hi, by go_grown⟩⟩
    refine Kd.R_of_own ?_ (fun g hg => ⟨?_, by simp⟩)
    · have hz : (w.alloc (Obj.cells #[.int .i64 id, .int .i64 cpu, .int .i64 mem, .int .i64 disk, .slice PA pn pc, .slice TA tn tc] 27)).heap.size = w.heap.size + 1 := by simp
      have := World.ownsRow_lit (base := w.heap.size) (e := 75) (size := 1) (w.alloc (Obj.cells #[.int .i64 id, .int .i64 cpu, .int .i64 mem, .int .i64 disk, .slice PA pn pc, .slice TA tn tc] 27)) #[fnV (78, w.heap.size), fnV (80, w.heap.size), fnV (82, w.heap.size), fnV (84, w.heap.size)] 4 (by simp) (by decide) rfl
      rw [hz] at this
      exact this
    · simp [Value.ownBlock] at hg
      omega
  case round =>
    obtain ⟨k, hk, rfl, bs, hI⟩ := hrel
    by_cases hlt : k < 4
    · have hkt : k < ts.length := by have := HTN.out; omega
      obtain ⟨b, off, rfl, hb, hcells⟩ : ∃ b off, TA = some ⟨b, off, none⟩ ∧ b < w.heap.size ∧ _ := HT.out.resolve_left (by rintro rfl; simp at hkt)
      obtain ⟨x0, x1, x2, x3, x4, x5⟩ := hcells k hkt
      clear hcells
      have y0 := (hI.bel.cell (p := ⟨b, off + k * 6, none⟩) hb).trans x0
      have y1 := (hI.bel.cell (p := ⟨b, off + k * 6 + 1, none⟩) hb).trans x1
      have y2 := (hI.bel.cell (p := ⟨b, off + k * 6 + 2, none⟩) hb).trans x2
      have y3 := (hI.bel.cell (p := ⟨b, off + k * 6 + 3, none⟩) hb).trans x3
      have y4 := (hI.bel.cell (p := ⟨b, off + k * 6 + 4, none⟩) hb).trans x4
      have y5 := (hI.bel.cell (p := ⟨b, off + k * 6 + 5, none⟩) hb).trans x5
      clear x0 x1 x2 x3 x4 x5
      have HI := Lib.hid hI
      clear hI
      go_wp2_with (at_builtin; (refine Kd.R_append_row (w0 := w) fnV (0, 0) (h1 := fnV_one) w.heap.size rfl _ _ 119 75 .nilFunc 8 rfl Try.underlying119 info_fn rfl (by decide) _ (fs4 w.heap.size ++ bs.flatMap fs2) (fs2 wr.heap.size) (some ⟨wr.heap.size + 1, 0, none⟩) 2 2 (fun g => (g ≠ w.heap.size ∧ g ∉ bs) ∧ g ≠ wr.heap.size) rfl rfl ?fresh ?row ?src ?bel ?base ?len ?_); (case fresh => intro g hg; exact HI.out.fresh (by simpa using hg)); (case row => exact Kd.R_below (Kd.R_elderB HI.out.row wr.heap.size (Nat.le_refl _)) (by go_grown)); (case src => exact C_lit2 _ _ (vnewAt (by simp))); (case bel => exact below_alloc (below_alloc HI.out.bel _) _); (case base => have := HI.out.bel.size; simp; omega); (case len => rw [HI.out.flen]; omega); intro v1 w3 hR hB hg hat)
      have hN := HI.out.next hg hR hB
      clear hg hat hR hB HI
      go_roundw
      case rel => exact ⟨k + 1, by omega, by go_num, _, hN⟩
      case measure => simp [intOf]; omega
    · have hkm : k = (ts.take 4).length := by have := HTN.out; rw [List.length_take]; omega
      have HKM := Lib.hid hkm
      have HI := Lib.hid hI
      clear hI hkm
      go_wp2_with fail
      refine (HI.out.ask HPN.out HP.out HPM.out HTN.out htm HKM.out).mono ?_
      rintro e w1 ⟨rfl, hb1⟩
      have hB1 := below_then HI.out.bel hb1
      clear HI hb1
      go_wp2
      go_returns
      exact ⟨rfl, hB1⟩

theorem scheck_c (id cpu mem disk : Int) (PA TA : Option Addr) (pn pc tn tc : Nat) (ps : List Int) (ts : List TS) (w : World) (hpn : pn = ps.length) (hP : RowI w PA ps) (hpm : ps.length ≤ 9223372036854775807) (htn : tn = ts.length) (hT : RowT w TA ts) (htm : tn ≤ 9223372036854775807) (htc : tn ≤ tc) :
    Calls Try.prog 54 #[.agg #[.int .i64 id, .int .i64 cpu, .int .i64 mem, .int .i64 disk, .slice PA pn pc, .slice TA tn tc]] w fun e w' => e = .returned (.int .i64 (specE ⟨id, cpu, mem, disk, ps, ts⟩)) ∧ Below w.heap.size w w' := by
  by_cases h4 : 4 < tn
  · exact scheck_many id cpu mem disk PA TA pn pc tn tc ps ts w hpn hP hpm htn hT htm htc h4
  · exact scheck_few id cpu mem disk PA TA pn pc tn tc ps ts w hpn hP hpm htn hT htm htc h4
end Go.Proofs.YtkhcdichdnbcmaaR
