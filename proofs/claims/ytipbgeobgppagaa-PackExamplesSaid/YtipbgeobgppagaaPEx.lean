/- The walk of PackExamples. Printed by gen/pexamples.py. -/
import Derived.Test.YtipbgeobgppagaaBase
import Derived.Test.YtipbgeobgppagaaX1
import Derived.Test.YtipbgeobgppagaaProg
import Derived.Lib.Hide
namespace Go.Proofs.Ytipbgeobgppagaa
open Go.RowKit Go.Proofs.Ytipbgeobgppagaa.Ext Go.Proofs.Ytipbgeobgppagaa.X Go.Proofs.YtipbgeobgppagaaW.PrintWords Go.Proofs.YtipbgeobgppagaaW.PrintLast Go.Proofs.YtipbgeobgppagaaW.PrintMore
set_option linter.unusedSimpArgs false
set_option linter.unusedVariables false

theorem drb {f : Nat} {ags : Array Value} {w : World} {r : Value} (h : Calls Try.prog f ags w fun e w' => e = .returned r ∧ Drawn0 w w') : Calls Try.prog f ags w fun e w' => e = .returned r ∧ Below w.heap.size w w' := by
  refine h.mono ?_
  rintro e w' ⟨e1, d⟩
  obtain ⟨m, rfl⟩ := d
  exact ⟨e1, pw_below_drewN (Below.refl _ _) m⟩
theorem of_c (xs : List Int) (n : Nat) {w : World} {g : Nat} (h : w.heap[g]? = some (.cells (xs.map (Value.int .u8)).toArray 5 (0, 0))) (hn : n = xs.length) (hm : xs.length ≤ 1000) :
    Calls Try.prog 35 #[.slice (some ⟨g, 0, none⟩) n n] w fun e w' => e = .returned (.string (strOfNums xs)) ∧ Below w.heap.size w w' := by
  subst hn
  refine (sacristanlaw02_of.calls (some ⟨g, 0, none⟩) xs.length xs (strOfNums xs) w (Kd.C_of_reads (enc := Value.int .u8) (d := 0) ?_) (Nat.le_refl _) rfl).mono ?_
  · refine ⟨rfl, by omega, fun _ => ⟨_, rfl, fun j hj => ?_⟩⟩
    have := vcell h j
    have e : (⟨g, 0, none⟩ : Addr).add j = ⟨g, j, none⟩ := by unfold Addr.add; split <;> simp_all
    rw [e]
    simpa [List.getD_eq_getElem?_getD, hj] using this
  · rintro e w' ⟨e1, d⟩
    obtain ⟨m, rfl⟩ := d
    exact ⟨e1, pw_below_drewN (Below.refl _ _) m⟩

theorem k1 (w : World) : Calls Try.prog 26 #[.int .u64 258, .int .i64 2] w fun e w' => e = .returned (.tuple #[.string (strOfNums [1, 2]), .int .i64 0]) ∧ Below w.heap.size w w' := pack_Fixed.calls 20 258 2 (strOfNums [1, 2]) 0 w (by decide +kernel)
theorem k2 (w : World) : Calls Try.prog 26 #[.int .u64 258, .int .i64 4] w fun e w' => e = .returned (.tuple #[.string (strOfNums [0, 0, 1, 2]), .int .i64 0]) ∧ Below w.heap.size w w' := pack_Fixed.calls 20 258 4 (strOfNums [0, 0, 1, 2]) 0 w (by decide +kernel)
theorem k3 (w : World) : Calls Try.prog 26 #[.int .u64 258, .int .i64 1] w fun e w' => e = .returned (.tuple #[.string (⟨#[]⟩ : ByteArray), .int .i64 3]) ∧ Below w.heap.size w w' := pack_Fixed.calls 20 258 1 (⟨#[]⟩ : ByteArray) 3 w (by decide +kernel)
theorem k4 (w : World) : Calls Try.prog 26 #[.int .u64 0, .int .i64 9] w fun e w' => e = .returned (.tuple #[.string (⟨#[]⟩ : ByteArray), .int .i64 2]) ∧ Below w.heap.size w w' := pack_Fixed.calls 20 0 9 (⟨#[]⟩ : ByteArray) 2 w (by decide +kernel)
theorem k5 (w : World) : Calls Try.prog 26 #[.int .u64 0, .int .i64 0] w fun e w' => e = .returned (.tuple #[.string (⟨#[]⟩ : ByteArray), .int .i64 2]) ∧ Below w.heap.size w w' := pack_Fixed.calls 20 0 0 (⟨#[]⟩ : ByteArray) 2 w (by decide +kernel)
theorem k6 (w : World) : Calls Try.prog 36 #[.string (strOfNums [1, 2])] w fun e w' => e = .returned (.tuple #[.int .u64 258, .int .i64 0]) ∧ Below w.heap.size w w' := drb <| pack_Unfixed.calls 20 (strOfNums [1, 2]) 258 0 w (by decide +kernel)
theorem k7 (w : World) : Calls Try.prog 36 #[.string (⟨#[]⟩ : ByteArray)] w fun e w' => e = .returned (.tuple #[.int .u64 0, .int .i64 2]) ∧ Below w.heap.size w w' := drb <| pack_Unfixed.calls 20 (⟨#[]⟩ : ByteArray) 0 2 w (by decide +kernel)
theorem k8 (w : World) : Calls Try.prog 36 #[.string (strOfNums [0, 0, 0, 0, 0, 0, 0, 0, 0])] w fun e w' => e = .returned (.tuple #[.int .u64 0, .int .i64 2]) ∧ Below w.heap.size w w' := drb <| pack_Unfixed.calls 20 (strOfNums [0, 0, 0, 0, 0, 0, 0, 0, 0]) 0 2 w (by decide +kernel)
theorem k9 (w : World) : Calls Try.prog 27 #[.int .u64 247] w fun e w' => e = .returned (.string (strOfNums [247])) ∧ Below w.heap.size w w' := pack_Var.calls 247 (strOfNums [247]) w (by decide +kernel)
theorem k10 (w : World) : Calls Try.prog 27 #[.int .u64 248] w fun e w' => e = .returned (.string (strOfNums [248, 248])) ∧ Below w.heap.size w w' := pack_Var.calls 248 (strOfNums [248, 248]) w (by decide +kernel)
theorem k11 (w : World) : Calls Try.prog 27 #[.int .u64 256] w fun e w' => e = .returned (.string (strOfNums [249, 1, 0])) ∧ Below w.heap.size w w' := pack_Var.calls 256 (strOfNums [249, 1, 0]) w (by decide +kernel)
theorem k12 (w : World) : Calls Try.prog 27 #[.int .u64 18446744073709551615] w fun e w' => e = .returned (.string (strOfNums [255, 255, 255, 255, 255, 255, 255, 255, 255])) ∧ Below w.heap.size w w' := pack_Var.calls 18446744073709551615 (strOfNums [255, 255, 255, 255, 255, 255, 255, 255, 255]) w (by decide +kernel)
theorem k13 (w : World) : Calls Try.prog 31 #[.int .i64 0] w fun e w' => e = .returned (.string (strOfNums [0])) ∧ Below w.heap.size w w' := pack_Int.calls 0 (strOfNums [0]) w (by decide +kernel)
theorem k14 (w : World) : Calls Try.prog 31 #[.int .i64 (-1)] w fun e w' => e = .returned (.string (strOfNums [1])) ∧ Below w.heap.size w w' := pack_Int.calls (-1) (strOfNums [1]) w (by decide +kernel)
theorem k15 (w : World) : Calls Try.prog 31 #[.int .i64 1] w fun e w' => e = .returned (.string (strOfNums [2])) ∧ Below w.heap.size w w' := pack_Int.calls 1 (strOfNums [2]) w (by decide +kernel)
theorem k16 (w : World) : Calls Try.prog 31 #[.int .i64 (-9223372036854775808)] w fun e w' => e = .returned (.string (strOfNums [255, 255, 255, 255, 255, 255, 255, 255, 255])) ∧ Below w.heap.size w w' := pack_Int.calls (-9223372036854775808) (strOfNums [255, 255, 255, 255, 255, 255, 255, 255, 255]) w (by decide +kernel)
theorem k17 (w : World) : Calls Try.prog 31 #[.int .i64 124] w fun e w' => e = .returned (.string (strOfNums [248, 248])) ∧ Below w.heap.size w w' := pack_Int.calls 124 (strOfNums [248, 248]) w (by decide +kernel)
theorem k18 (w : World) : Calls Try.prog 37 #[.string (strOfNums [249, 1, 0, 7])] w fun e w' => e = .returned (.tuple #[.int .u64 256, .string (strOfNums [7]), .int .i64 0]) ∧ Below w.heap.size w w' := drb <| pack_Unvar.calls 20 (strOfNums [249, 1, 0, 7]) 256 (strOfNums [7]) 0 w (by decide +kernel)
theorem k19 (w : World) : Calls Try.prog 37 #[.string (strOfNums [249, 0, 9])] w fun e w' => e = .returned (.tuple #[.int .u64 0, .string (⟨#[]⟩ : ByteArray), .int .i64 4]) ∧ Below w.heap.size w w' := drb <| pack_Unvar.calls 20 (strOfNums [249, 0, 9]) 0 (⟨#[]⟩ : ByteArray) 4 w (by decide +kernel)
theorem k20 (w : World) : Calls Try.prog 37 #[.string (strOfNums [248, 247])] w fun e w' => e = .returned (.tuple #[.int .u64 0, .string (⟨#[]⟩ : ByteArray), .int .i64 4]) ∧ Below w.heap.size w w' := drb <| pack_Unvar.calls 20 (strOfNums [248, 247]) 0 (⟨#[]⟩ : ByteArray) 4 w (by decide +kernel)
theorem k21 (w : World) : Calls Try.prog 37 #[.string (strOfNums [250, 1, 2])] w fun e w' => e = .returned (.tuple #[.int .u64 0, .string (⟨#[]⟩ : ByteArray), .int .i64 4]) ∧ Below w.heap.size w w' := drb <| pack_Unvar.calls 20 (strOfNums [250, 1, 2]) 0 (⟨#[]⟩ : ByteArray) 4 w (by decide +kernel)
theorem k22 (w : World) : Calls Try.prog 37 #[.string (⟨#[]⟩ : ByteArray)] w fun e w' => e = .returned (.tuple #[.int .u64 0, .string (⟨#[]⟩ : ByteArray), .int .i64 4]) ∧ Below w.heap.size w w' := drb <| pack_Unvar.calls 20 (⟨#[]⟩ : ByteArray) 0 (⟨#[]⟩ : ByteArray) 4 w (by decide +kernel)
theorem k23 (w : World) : Calls Try.prog 38 #[.string (strOfNums [2, 97, 98, 99])] w fun e w' => e = .returned (.tuple #[.string (⟨#[97, 98]⟩ : ByteArray), .string (⟨#[99]⟩ : ByteArray), .int .i64 0]) ∧ Below w.heap.size w w' := drb <| pack_Untext.calls 20 (strOfNums [2, 97, 98, 99]) (⟨#[97, 98]⟩ : ByteArray) (⟨#[99]⟩ : ByteArray) 0 w (by decide +kernel)
theorem k24 (w : World) : Calls Try.prog 38 #[.string (strOfNums [2, 97])] w fun e w' => e = .returned (.tuple #[.string (⟨#[]⟩ : ByteArray), .string (⟨#[]⟩ : ByteArray), .int .i64 4]) ∧ Below w.heap.size w w' := drb <| pack_Untext.calls 20 (strOfNums [2, 97]) (⟨#[]⟩ : ByteArray) (⟨#[]⟩ : ByteArray) 4 w (by decide +kernel)
theorem k25 (w : World) : Calls Try.prog 33 #[.string (⟨#[97, 98]⟩ : ByteArray)] w fun e w' => e = .returned (.string (strOfNums [2, 97, 98])) ∧ Below w.heap.size w w' := pack_Text.calls (⟨#[97, 98]⟩ : ByteArray) (strOfNums [2, 97, 98]) w (by decide +kernel)

set_option maxRecDepth 100000 in
set_option maxHeartbeats 8000000 in
theorem walk_PackExamples (w : World) : Calls Try.prog 11 #[] w fun e w' => e = .returned (.bool true) ∧ Below w.heap.size w w' := by
  go_enter Try.func11, Try.ntmps11
  go_wp2_with fail
  refine (k1 _).mono ?_
  rintro e_ w1 ⟨rfl, hb⟩
  have B : Below w.heap.size w w1 := below_then (by go_grown) hb
  clear hb
  go_wp2_with fail
  refine (k2 _).mono ?_
  rintro e_ w2 ⟨rfl, hb⟩
  have B2 : Below w.heap.size w w2 := below_then (below_then B (by go_grown)) hb
  clear B
  have B := B2
  clear B2
  clear hb
  go_wp2_with fail
  refine (k3 _).mono ?_
  rintro e_ w3 ⟨rfl, hb⟩
  have B2 : Below w.heap.size w w3 := below_then (below_then B (by go_grown)) hb
  clear B
  have B := B2
  clear B2
  clear hb
  go_wp2_with fail
  refine (k4 _).mono ?_
  rintro e_ w4 ⟨rfl, hb⟩
  have B2 : Below w.heap.size w w4 := below_then (below_then B (by go_grown)) hb
  clear B
  have B := B2
  clear B2
  clear hb
  go_wp2_with fail
  refine (k5 _).mono ?_
  rintro e_ w5 ⟨rfl, hb⟩
  have B2 : Below w.heap.size w w5 := below_then (below_then B (by go_grown)) hb
  clear B
  have B := B2
  clear B2
  clear hb
  go_wp2_with fail
  refine (of_c [1, 2] 2 (by (repeat' (first | assumption | (refine vnewAt ?_; first | omega | (simp; done) | (simp; omega)) | refine valloc ?_ | refine vdrew ?_ | apply vput | (refine vfarr ?_ ?_; focus (first | omega | (simp; done) | (simp; omega))) | rfl))) rfl (by decide)).mono ?_
  rintro e_ w6 ⟨rfl, hb⟩
  have B2 : Below w.heap.size w w6 := below_then (below_then B (by go_grown)) hb
  clear B
  have B := B2
  clear B2
  clear hb
  go_wp2_with fail
  refine (of_c [0, 0, 1, 2] 4 (by (repeat' (first | assumption | (refine vnewAt ?_; first | omega | (simp; done) | (simp; omega)) | refine valloc ?_ | refine vdrew ?_ | apply vput | (refine vfarr ?_ ?_; focus (first | omega | (simp; done) | (simp; omega))) | rfl))) rfl (by decide)).mono ?_
  rintro e_ w7 ⟨rfl, hb⟩
  have B2 : Below w.heap.size w w7 := below_then (below_then B (by go_grown)) hb
  clear B
  have B := B2
  clear B2
  clear hb
  go_wp2_with fail
  refine (of_c [1, 2] 2 (by (repeat' (first | assumption | (refine vnewAt ?_; first | omega | (simp; done) | (simp; omega)) | refine valloc ?_ | refine vdrew ?_ | apply vput | (refine vfarr ?_ ?_; focus (first | omega | (simp; done) | (simp; omega))) | rfl))) rfl (by decide)).mono ?_
  rintro e_ w8 ⟨rfl, hb⟩
  have B2 : Below w.heap.size w w8 := below_then (below_then B (by go_grown)) hb
  clear B
  have B := B2
  clear B2
  clear hb
  go_wp2_with fail
  refine (k6 _).mono ?_
  rintro e_ w9 ⟨rfl, hb⟩
  have B2 : Below w.heap.size w w9 := below_then (below_then B (by go_grown)) hb
  clear B
  have B := B2
  clear B2
  clear hb
  go_wp2_with fail
  refine (k7 _).mono ?_
  rintro e_ w10 ⟨rfl, hb⟩
  have B2 : Below w.heap.size w w10 := below_then (below_then B (by go_grown)) hb
  clear B
  have B := B2
  clear B2
  clear hb
  go_wp2_with fail
  refine (of_c [0, 0, 0, 0, 0, 0, 0, 0, 0] 9 (by (repeat' (first | assumption | (refine vnewAt ?_; first | omega | (simp; done) | (simp; omega)) | refine valloc ?_ | refine vdrew ?_ | apply vput | (refine vfarr ?_ ?_; focus (first | omega | (simp; done) | (simp; omega))) | rfl))) rfl (by decide)).mono ?_
  rintro e_ w11 ⟨rfl, hb⟩
  have B2 : Below w.heap.size w w11 := below_then (below_then B (by go_grown)) hb
  clear B
  have B := B2
  clear B2
  clear hb
  go_wp2_with fail
  refine (k8 _).mono ?_
  rintro e_ w12 ⟨rfl, hb⟩
  have B2 : Below w.heap.size w w12 := below_then (below_then B (by go_grown)) hb
  clear B
  have B := B2
  clear B2
  clear hb
  go_wp2_with fail
  refine (of_c [255, 255, 255, 255, 255, 255, 255, 255, 255] 9 (by (repeat' (first | assumption | (refine vnewAt ?_; first | omega | (simp; done) | (simp; omega)) | refine valloc ?_ | refine vdrew ?_ | apply vput | (refine vfarr ?_ ?_; focus (first | omega | (simp; done) | (simp; omega))) | rfl))) rfl (by decide)).mono ?_
  rintro e_ w13 ⟨rfl, hb⟩
  have B2 : Below w.heap.size w w13 := below_then (below_then B (by go_grown)) hb
  clear B
  have B := B2
  clear B2
  clear hb
  go_wp2_with fail
  refine (k9 _).mono ?_
  rintro e_ w14 ⟨rfl, hb⟩
  have B2 : Below w.heap.size w w14 := below_then (below_then B (by go_grown)) hb
  clear B
  have B := B2
  clear B2
  clear hb
  go_wp2_with fail
  refine (of_c [247] 1 (by (repeat' (first | assumption | (refine vnewAt ?_; first | omega | (simp; done) | (simp; omega)) | refine valloc ?_ | refine vdrew ?_ | apply vput | (refine vfarr ?_ ?_; focus (first | omega | (simp; done) | (simp; omega))) | rfl))) rfl (by decide)).mono ?_
  rintro e_ w15 ⟨rfl, hb⟩
  have B2 : Below w.heap.size w w15 := below_then (below_then B (by go_grown)) hb
  clear B
  have B := B2
  clear B2
  clear hb
  go_wp2_with fail
  refine (k10 _).mono ?_
  rintro e_ w16 ⟨rfl, hb⟩
  have B2 : Below w.heap.size w w16 := below_then (below_then B (by go_grown)) hb
  clear B
  have B := B2
  clear B2
  clear hb
  go_wp2_with fail
  refine (of_c [248, 248] 2 (by (repeat' (first | assumption | (refine vnewAt ?_; first | omega | (simp; done) | (simp; omega)) | refine valloc ?_ | refine vdrew ?_ | apply vput | (refine vfarr ?_ ?_; focus (first | omega | (simp; done) | (simp; omega))) | rfl))) rfl (by decide)).mono ?_
  rintro e_ w17 ⟨rfl, hb⟩
  have B2 : Below w.heap.size w w17 := below_then (below_then B (by go_grown)) hb
  clear B
  have B := B2
  clear B2
  clear hb
  go_wp2_with fail
  refine (k11 _).mono ?_
  rintro e_ w18 ⟨rfl, hb⟩
  have B2 : Below w.heap.size w w18 := below_then (below_then B (by go_grown)) hb
  clear B
  have B := B2
  clear B2
  clear hb
  go_wp2_with fail
  refine (of_c [249, 1, 0] 3 (by (repeat' (first | assumption | (refine vnewAt ?_; first | omega | (simp; done) | (simp; omega)) | refine valloc ?_ | refine vdrew ?_ | apply vput | (refine vfarr ?_ ?_; focus (first | omega | (simp; done) | (simp; omega))) | rfl))) rfl (by decide)).mono ?_
  rintro e_ w19 ⟨rfl, hb⟩
  have B2 : Below w.heap.size w w19 := below_then (below_then B (by go_grown)) hb
  clear B
  have B := B2
  clear B2
  clear hb
  go_wp2_with fail
  refine (k12 _).mono ?_
  rintro e_ w20 ⟨rfl, hb⟩
  have B2 : Below w.heap.size w w20 := below_then (below_then B (by go_grown)) hb
  clear B
  have B := B2
  clear B2
  clear hb
  go_wp2_with fail
  refine (k13 _).mono ?_
  rintro e_ w21 ⟨rfl, hb⟩
  have B2 : Below w.heap.size w w21 := below_then (below_then B (by go_grown)) hb
  clear B
  have B := B2
  clear B2
  clear hb
  go_wp2_with fail
  refine (of_c [0] 1 (by (repeat' (first | assumption | (refine vnewAt ?_; first | omega | (simp; done) | (simp; omega)) | refine valloc ?_ | refine vdrew ?_ | apply vput | (refine vfarr ?_ ?_; focus (first | omega | (simp; done) | (simp; omega))) | rfl))) rfl (by decide)).mono ?_
  rintro e_ w22 ⟨rfl, hb⟩
  have B2 : Below w.heap.size w w22 := below_then (below_then B (by go_grown)) hb
  clear B
  have B := B2
  clear B2
  clear hb
  go_wp2_with fail
  refine (k14 _).mono ?_
  rintro e_ w23 ⟨rfl, hb⟩
  have B2 : Below w.heap.size w w23 := below_then (below_then B (by go_grown)) hb
  clear B
  have B := B2
  clear B2
  clear hb
  go_wp2_with fail
  refine (of_c [1] 1 (by (repeat' (first | assumption | (refine vnewAt ?_; first | omega | (simp; done) | (simp; omega)) | refine valloc ?_ | refine vdrew ?_ | apply vput | (refine vfarr ?_ ?_; focus (first | omega | (simp; done) | (simp; omega))) | rfl))) rfl (by decide)).mono ?_
  rintro e_ w24 ⟨rfl, hb⟩
  have B2 : Below w.heap.size w w24 := below_then (below_then B (by go_grown)) hb
  clear B
  have B := B2
  clear B2
  clear hb
  go_wp2_with fail
  refine (k15 _).mono ?_
  rintro e_ w25 ⟨rfl, hb⟩
  have B2 : Below w.heap.size w w25 := below_then (below_then B (by go_grown)) hb
  clear B
  have B := B2
  clear B2
  clear hb
  go_wp2_with fail
  refine (of_c [2] 1 (by (repeat' (first | assumption | (refine vnewAt ?_; first | omega | (simp; done) | (simp; omega)) | refine valloc ?_ | refine vdrew ?_ | apply vput | (refine vfarr ?_ ?_; focus (first | omega | (simp; done) | (simp; omega))) | rfl))) rfl (by decide)).mono ?_
  rintro e_ w26 ⟨rfl, hb⟩
  have B2 : Below w.heap.size w w26 := below_then (below_then B (by go_grown)) hb
  clear B
  have B := B2
  clear B2
  clear hb
  go_wp2_with fail
  refine (k16 _).mono ?_
  rintro e_ w27 ⟨rfl, hb⟩
  have B2 : Below w.heap.size w w27 := below_then (below_then B (by go_grown)) hb
  clear B
  have B := B2
  clear B2
  clear hb
  go_wp2_with fail
  refine (k17 _).mono ?_
  rintro e_ w28 ⟨rfl, hb⟩
  have B2 : Below w.heap.size w w28 := below_then (below_then B (by go_grown)) hb
  clear B
  have B := B2
  clear B2
  clear hb
  go_wp2_with fail
  refine (of_c [248, 248] 2 (by (repeat' (first | assumption | (refine vnewAt ?_; first | omega | (simp; done) | (simp; omega)) | refine valloc ?_ | refine vdrew ?_ | apply vput | (refine vfarr ?_ ?_; focus (first | omega | (simp; done) | (simp; omega))) | rfl))) rfl (by decide)).mono ?_
  rintro e_ w29 ⟨rfl, hb⟩
  have B2 : Below w.heap.size w w29 := below_then (below_then B (by go_grown)) hb
  clear B
  have B := B2
  clear B2
  clear hb
  go_wp2_with fail
  refine (of_c [249, 1, 0, 7] 4 (by (repeat' (first | assumption | (refine vnewAt ?_; first | omega | (simp; done) | (simp; omega)) | refine valloc ?_ | refine vdrew ?_ | apply vput | (refine vfarr ?_ ?_; focus (first | omega | (simp; done) | (simp; omega))) | rfl))) rfl (by decide)).mono ?_
  rintro e_ w30 ⟨rfl, hb⟩
  have B2 : Below w.heap.size w w30 := below_then (below_then B (by go_grown)) hb
  clear B
  have B := B2
  clear B2
  clear hb
  go_wp2_with fail
  refine (k18 _).mono ?_
  rintro e_ w31 ⟨rfl, hb⟩
  have B2 : Below w.heap.size w w31 := below_then (below_then B (by go_grown)) hb
  clear B
  have B := B2
  clear B2
  clear hb
  go_wp2_with fail
  refine (of_c [7] 1 (by (repeat' (first | assumption | (refine vnewAt ?_; first | omega | (simp; done) | (simp; omega)) | refine valloc ?_ | refine vdrew ?_ | apply vput | (refine vfarr ?_ ?_; focus (first | omega | (simp; done) | (simp; omega))) | rfl))) rfl (by decide)).mono ?_
  rintro e_ w32 ⟨rfl, hb⟩
  have B2 : Below w.heap.size w w32 := below_then (below_then B (by go_grown)) hb
  clear B
  have B := B2
  clear B2
  clear hb
  go_wp2_with fail
  refine (of_c [249, 0, 9] 3 (by (repeat' (first | assumption | (refine vnewAt ?_; first | omega | (simp; done) | (simp; omega)) | refine valloc ?_ | refine vdrew ?_ | apply vput | (refine vfarr ?_ ?_; focus (first | omega | (simp; done) | (simp; omega))) | rfl))) rfl (by decide)).mono ?_
  rintro e_ w33 ⟨rfl, hb⟩
  have B2 : Below w.heap.size w w33 := below_then (below_then B (by go_grown)) hb
  clear B
  have B := B2
  clear B2
  clear hb
  go_wp2_with fail
  refine (of_c [248, 247] 2 (by (repeat' (first | assumption | (refine vnewAt ?_; first | omega | (simp; done) | (simp; omega)) | refine valloc ?_ | refine vdrew ?_ | apply vput | (refine vfarr ?_ ?_; focus (first | omega | (simp; done) | (simp; omega))) | rfl))) rfl (by decide)).mono ?_
  rintro e_ w34 ⟨rfl, hb⟩
  have B2 : Below w.heap.size w w34 := below_then (below_then B (by go_grown)) hb
  clear B
  have B := B2
  clear B2
  clear hb
  go_wp2_with fail
  refine (of_c [250, 1, 2] 3 (by (repeat' (first | assumption | (refine vnewAt ?_; first | omega | (simp; done) | (simp; omega)) | refine valloc ?_ | refine vdrew ?_ | apply vput | (refine vfarr ?_ ?_; focus (first | omega | (simp; done) | (simp; omega))) | rfl))) rfl (by decide)).mono ?_
  rintro e_ w35 ⟨rfl, hb⟩
  have B2 : Below w.heap.size w w35 := below_then (below_then B (by go_grown)) hb
  clear B
  have B := B2
  clear B2
  clear hb
  go_wp2_with fail
  go_loopw [179] (fun v wr => ∃ i : Nat, i ≤ 4 ∧ v = .int .i64 i ∧ wr.heap[w35.heap.size]? = some (.cells #[.string (strOfNums [249, 0, 9]), .string (strOfNums [248, 247]), .string (strOfNums [250, 1, 2]), .string (⟨#[]⟩ : ByteArray)] 9 (0, 0)) ∧ Below w.heap.size w wr) (fun v _ => 4 - (intOf v).toNat)
  case atStart => exact ⟨0, by omega, rfl, by (repeat' (first | assumption | (refine vnewAt ?_; first | omega | (simp; done) | (simp; omega)) | refine valloc ?_ | refine vdrew ?_ | apply vput | (refine vfarr ?_ ?_; focus (first | omega | (simp; done) | (simp; omega))) | rfl)), below_then B (by go_grown)⟩
  case round =>
    clear B
    obtain ⟨i, hi, rfl, hc0, B⟩ := hrel
    have hc := vcell hc0
    have hi4 : i = 0 ∨ i = 1 ∨ i = 2 ∨ i = 3 ∨ i = 4 := by omega
    rcases hi4 with rfl | rfl | rfl | rfl | rfl
    · go_wp2_with fail
      refine (k19 _).mono ?_
      rintro e_ wx ⟨rfl, hb⟩
      have B2 := below_then B hb
      have hc2 := vbelow hc0 hb
      go_wp2_with fail
      all_goals go_roundw
      all_goals first | exact ⟨1, by omega, rfl, hc2, B2⟩ | (simp [intOf]; done)
    · go_wp2_with fail
      refine (k20 _).mono ?_
      rintro e_ wx ⟨rfl, hb⟩
      have B2 := below_then B hb
      have hc2 := vbelow hc0 hb
      go_wp2_with fail
      all_goals go_roundw
      all_goals first | exact ⟨2, by omega, rfl, hc2, B2⟩ | (simp [intOf]; done)
    · go_wp2_with fail
      refine (k21 _).mono ?_
      rintro e_ wx ⟨rfl, hb⟩
      have B2 := below_then B hb
      have hc2 := vbelow hc0 hb
      go_wp2_with fail
      all_goals go_roundw
      all_goals first | exact ⟨3, by omega, rfl, hc2, B2⟩ | (simp [intOf]; done)
    · go_wp2_with fail
      refine (k22 _).mono ?_
      rintro e_ wx ⟨rfl, hb⟩
      have B2 := below_then B hb
      have hc2 := vbelow hc0 hb
      go_wp2_with fail
      all_goals go_roundw
      all_goals first | exact ⟨4, by omega, rfl, hc2, B2⟩ | (simp [intOf]; done)
    · go_wp2_with fail
      refine (of_c [2, 97, 98, 99] 4 (by (repeat' (first | assumption | (refine vnewAt ?_; first | omega | (simp; done) | (simp; omega)) | refine valloc ?_ | refine vdrew ?_ | apply vput | (refine vfarr ?_ ?_; focus (first | omega | (simp; done) | (simp; omega))) | rfl))) rfl (by decide)).mono ?_
      rintro e_ w36 ⟨rfl, hb⟩
      have B2 : Below w.heap.size w w36 := below_then (below_then B (by go_grown)) hb
      clear B
      have B := B2
      clear B2
      clear hb
      go_wp2_with fail
      refine (k23 _).mono ?_
      rintro e_ w37 ⟨rfl, hb⟩
      have B2 : Below w.heap.size w w37 := below_then (below_then B (by go_grown)) hb
      clear B
      have B := B2
      clear B2
      clear hb
      go_wp2_with fail
      refine (of_c [2, 97] 2 (by (repeat' (first | assumption | (refine vnewAt ?_; first | omega | (simp; done) | (simp; omega)) | refine valloc ?_ | refine vdrew ?_ | apply vput | (refine vfarr ?_ ?_; focus (first | omega | (simp; done) | (simp; omega))) | rfl))) rfl (by decide)).mono ?_
      rintro e_ w38 ⟨rfl, hb⟩
      have B2 : Below w.heap.size w w38 := below_then (below_then B (by go_grown)) hb
      clear B
      have B := B2
      clear B2
      clear hb
      go_wp2_with fail
      refine (k24 _).mono ?_
      rintro e_ w39 ⟨rfl, hb⟩
      have B2 : Below w.heap.size w w39 := below_then (below_then B (by go_grown)) hb
      clear B
      have B := B2
      clear B2
      clear hb
      go_wp2_with fail
      refine (k25 _).mono ?_
      rintro e_ w40 ⟨rfl, hb⟩
      have B2 : Below w.heap.size w w40 := below_then (below_then B (by go_grown)) hb
      clear B
      have B := B2
      clear B2
      clear hb
      go_wp2_with fail
      refine (of_c [2, 97, 98] 3 (by (repeat' (first | assumption | (refine vnewAt ?_; first | omega | (simp; done) | (simp; omega)) | refine valloc ?_ | refine vdrew ?_ | apply vput | (refine vfarr ?_ ?_; focus (first | omega | (simp; done) | (simp; omega))) | rfl))) rfl (by decide)).mono ?_
      rintro e_ w41 ⟨rfl, hb⟩
      have B2 : Below w.heap.size w w41 := below_then (below_then B (by go_grown)) hb
      clear B
      have B := B2
      clear B2
      clear hb
      go_wp2
      go_ret
      exact ⟨rfl, B⟩
end Go.Proofs.Ytipbgeobgppagaa
