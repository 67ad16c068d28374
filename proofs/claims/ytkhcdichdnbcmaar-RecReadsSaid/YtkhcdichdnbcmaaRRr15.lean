/- Texts of this session, merged (wip/gen/shake.py). -/
import Derived.Test.YtkhcdichdnbcmaaRRr2
import Derived.Test.YtkhcdichdnbcmaaRRr4
import Derived.Test.YtkhcdichdnbcmaaRRr6
import Derived.Test.YtkhcdichdnbcmaaRRr9
section
namespace Go.Proofs.YtkhcdichdnbcmaaR
open Go.RowKit Go.Proofs.YtkhcdichdnbcmaaR Go.Proofs.YtkhcdichdnbcmaaR.Ext Go.Proofs.YtkhcdichdnbcmaaR.C Go.Proofs.YtkhcdichdnbcmaaR.Sp Go.Proofs.YtkhcdichdnbcmaaRW.PrintWords Go.Proofs.YtkhcdichdnbcmaaRW.PrintLast
set_option linter.unusedVariables false
set_option linter.unusedSimpArgs false
theorem RI_at {w0 w : World} {L : List HP} {A : Option Addr} {n c : Nat} {xs : List Int} (h : St w0 w (RI (.slice A n c) xs :: L)) (i : Int) (p : 0 ≤ i) (q : i < xs.length) : ∃ ad, A = some ad ∧ w.cell? (ad.add i.toNat) = some (.int .i64 (rd xs i)) := by
 obtain ⟨c1, -, -⟩ := h.rowKC
 exact Kd.at_int c1 i p q
theorem RI_sl {w0 w : World} {L : List HP} {v : Value} {xs : List Int} (h : St w0 w (RI v xs :: L)) : ∃ A c, v = .slice A xs.length c := by
 obtain ⟨A, c, he, -, -⟩ := Kd.R_reads h.rowKR
 exact ⟨A, c, he⟩
def fieldsL (k : Int) : List Int := if k = 1 then [0] else if k = 2 then [0, 1, 3, 4] else if k = 3 then [0, 1] else if k = 4 then [1, 2, 3] else if k = 5 then [1, 2, 5, 6] else if k = 6 then [1, 2] else if k = 7 then [1, 2] else if k = 8 then [1, 2, 3] else if k = 9 then [3] else []
theorem fields_eq (k : Int) : sacristanref17_Fields.f 5 k = some (fieldsL k) := by
 unfold sacristanref17_Fields.f fieldsL
 simp only [sacristanref17_Fields.j0]
 by_cases h6 : k = 6
 ·subst h6; decide
 ·by_cases h7 : k = 7
  ·subst h7; decide
  ·(repeat' split) <;> simp_all
theorem rfields_s {w0 w : World} {L : List HP} (k : Int) (h : St w0 w L) : Calls Try.prog 49 #[.int .u8 k] w fun ee w' => ∃ v, ee = .returned v ∧ St w0 w' (RI v (fieldsL k) :: L) := by
 refine (sacristanref17_Fields.calls 5 k _ w (fields_eq k)).mono ?_
 rintro ee w' ⟨v, rfl, hR, hb⟩
 exact ⟨v, rfl, h.rowKNew (flat_int _) hb hR⟩
set_option maxRecDepth 100000 in
set_option maxHeartbeats 1000000 in
theorem rwith_0 {w0 w : World} {L : List HP} (kind e a b c d id task tick wait pid nonce code v : Int) (A B : Option Addr) (n m p q : Nat) (h : St w0 w L) :
  Calls Try.prog 50 #[.agg #[.int .u8 kind, .int .i64 e, .int .i64 a, .int .i64 b, .int .i64 c, .int .i64 d, .slice A n p, .slice B m q, .int .i64 id, .int .i64 task, .int .i64 tick, .int .i64 wait, .int .i64 pid, .int .i64 nonce, .int .i64 code], .int .i64 0, .int .i64 v] w fun ee w' => ee = .returned (.agg #[.int .u8 kind, .int .i64 v, .int .i64 a, .int .i64 b, .int .i64 c, .int .i64 d, .slice A n p, .slice B m q, .int .i64 id, .int .i64 task, .int .i64 tick, .int .i64 wait, .int .i64 pid, .int .i64 nonce, .int .i64 code]) ∧ St w0 w' L := by
 have s0 := (h.alloc #[.int .u8 kind, .int .i64 v, .int .i64 a, .int .i64 b, .int .i64 c, .int .i64 d, .slice A n p, .slice B m q, .int .i64 id, .int .i64 task, .int .i64 tick, .int .i64 wait, .int .i64 pid, .int .i64 nonce, .int .i64 code] 35).alloc #[.int .u8 0, .int .i64 0, .int .i64 0, .int .i64 0, .int .i64 0, .int .i64 0, .slice none 0 0, .slice none 0 0, .int .i64 0, .int .i64 0, .int .i64 0, .int .i64 0, .int .i64 0, .int .i64 0, .int .i64 0] 35
 have hn1 : (w.alloc (Obj.cells #[.int .u8 kind, .int .i64 v, .int .i64 a, .int .i64 b, .int .i64 c, .int .i64 d, .slice A n p, .slice B m q, .int .i64 id, .int .i64 task, .int .i64 tick, .int .i64 wait, .int .i64 pid, .int .i64 nonce, .int .i64 code] 35)).heap.size = w.heap.size + 1 := by simp
 rw [hn1] at s0
 have S3 := Lib.hid s0
 clear s0 h hn1
 go_enter Try.func50, Try.ntmps50
 go_wp2_with (first | ((with_reducible refine wpList_storeSt S3.out rfl _ _ 35 rfl 0 #[.int .u8 kind, .int .i64 v, .int .i64 a, .int .i64 b, .int .i64 c, .int .i64 d, .slice A n p, .slice B m q, .int .i64 id, .int .i64 task, .int .i64 tick, .int .i64 wait, .int .i64 pid, .int .i64 nonce, .int .i64 code] #[.int .u8 kind, .int .i64 v, .int .i64 a, .int .i64 b, .int .i64 c, .int .i64 d, .slice A n p, .slice B m q, .int .i64 id, .int .i64 task, .int .i64 tick, .int .i64 wait, .int .i64 pid, .int .i64 nonce, .int .i64 code] size_rec ?hn ?hx ?hv ?hf ?h1 ?he ?_); (case hn => rfl); (case hx => rfl); (case hv => rfl); (case hf => simp); (case h1 => simp [Value.oneCell']); (case he => rfl); intro wz sz; have hcz := sz.cells; have hfz := sz.free; have SZ := Lib.hid sz; clear sz) | fail)
 refine bodyPost_ret (v := .agg #[.int .u8 kind, .int .i64 v, .int .i64 a, .int .i64 b, .int .i64 c, .int .i64 d, .slice A n p, .slice B m q, .int .i64 id, .int .i64 task, .int .i64 tick, .int .i64 wait, .int .i64 pid, .int .i64 nonce, .int .i64 code]) (by simp [results, Try.results50, go_sem, hcz]) rfl ?_
 exact ⟨rfl, SZ.out.drop.drop⟩
set_option maxRecDepth 100000 in
set_option maxHeartbeats 1000000 in
theorem rwith_1 {w0 w : World} {L : List HP} (kind e a b c d id task tick wait pid nonce code v : Int) (A B : Option Addr) (n m p q : Nat) (h : St w0 w L) :
  Calls Try.prog 50 #[.agg #[.int .u8 kind, .int .i64 e, .int .i64 a, .int .i64 b, .int .i64 c, .int .i64 d, .slice A n p, .slice B m q, .int .i64 id, .int .i64 task, .int .i64 tick, .int .i64 wait, .int .i64 pid, .int .i64 nonce, .int .i64 code], .int .i64 1, .int .i64 v] w fun ee w' => ee = .returned (.agg #[.int .u8 kind, .int .i64 e, .int .i64 a, .int .i64 b, .int .i64 c, .int .i64 d, .slice A n p, .slice B m q, .int .i64 v, .int .i64 task, .int .i64 tick, .int .i64 wait, .int .i64 pid, .int .i64 nonce, .int .i64 code]) ∧ St w0 w' L := by
 have s0 := (h.alloc #[.int .u8 kind, .int .i64 e, .int .i64 a, .int .i64 b, .int .i64 c, .int .i64 d, .slice A n p, .slice B m q, .int .i64 v, .int .i64 task, .int .i64 tick, .int .i64 wait, .int .i64 pid, .int .i64 nonce, .int .i64 code] 35).alloc #[.int .u8 0, .int .i64 0, .int .i64 0, .int .i64 0, .int .i64 0, .int .i64 0, .slice none 0 0, .slice none 0 0, .int .i64 0, .int .i64 0, .int .i64 0, .int .i64 0, .int .i64 0, .int .i64 0, .int .i64 0] 35
 have hn1 : (w.alloc (Obj.cells #[.int .u8 kind, .int .i64 e, .int .i64 a, .int .i64 b, .int .i64 c, .int .i64 d, .slice A n p, .slice B m q, .int .i64 v, .int .i64 task, .int .i64 tick, .int .i64 wait, .int .i64 pid, .int .i64 nonce, .int .i64 code] 35)).heap.size = w.heap.size + 1 := by simp
 rw [hn1] at s0
 have S3 := Lib.hid s0
 clear s0 h hn1
 go_enter Try.func50, Try.ntmps50
 go_wp2_with (first | ((with_reducible refine wpList_storeSt S3.out rfl _ _ 35 rfl 0 #[.int .u8 kind, .int .i64 e, .int .i64 a, .int .i64 b, .int .i64 c, .int .i64 d, .slice A n p, .slice B m q, .int .i64 v, .int .i64 task, .int .i64 tick, .int .i64 wait, .int .i64 pid, .int .i64 nonce, .int .i64 code] #[.int .u8 kind, .int .i64 e, .int .i64 a, .int .i64 b, .int .i64 c, .int .i64 d, .slice A n p, .slice B m q, .int .i64 v, .int .i64 task, .int .i64 tick, .int .i64 wait, .int .i64 pid, .int .i64 nonce, .int .i64 code] size_rec ?hn ?hx ?hv ?hf ?h1 ?he ?_); (case hn => rfl); (case hx => rfl); (case hv => rfl); (case hf => simp); (case h1 => simp [Value.oneCell']); (case he => rfl); intro wz sz; have hcz := sz.cells; have hfz := sz.free; have SZ := Lib.hid sz; clear sz) | fail)
 refine bodyPost_ret (v := .agg #[.int .u8 kind, .int .i64 e, .int .i64 a, .int .i64 b, .int .i64 c, .int .i64 d, .slice A n p, .slice B m q, .int .i64 v, .int .i64 task, .int .i64 tick, .int .i64 wait, .int .i64 pid, .int .i64 nonce, .int .i64 code]) (by simp [results, Try.results50, go_sem, hcz]) rfl ?_
 exact ⟨rfl, SZ.out.drop.drop⟩
set_option maxRecDepth 100000 in
set_option maxHeartbeats 1000000 in
theorem rwith_2 {w0 w : World} {L : List HP} (kind e a b c d id task tick wait pid nonce code v : Int) (A B : Option Addr) (n m p q : Nat) (h : St w0 w L) :
  Calls Try.prog 50 #[.agg #[.int .u8 kind, .int .i64 e, .int .i64 a, .int .i64 b, .int .i64 c, .int .i64 d, .slice A n p, .slice B m q, .int .i64 id, .int .i64 task, .int .i64 tick, .int .i64 wait, .int .i64 pid, .int .i64 nonce, .int .i64 code], .int .i64 2, .int .i64 v] w fun ee w' => ee = .returned (.agg #[.int .u8 kind, .int .i64 e, .int .i64 a, .int .i64 b, .int .i64 c, .int .i64 d, .slice A n p, .slice B m q, .int .i64 id, .int .i64 v, .int .i64 tick, .int .i64 wait, .int .i64 pid, .int .i64 nonce, .int .i64 code]) ∧ St w0 w' L := by
 have s0 := (h.alloc #[.int .u8 kind, .int .i64 e, .int .i64 a, .int .i64 b, .int .i64 c, .int .i64 d, .slice A n p, .slice B m q, .int .i64 id, .int .i64 v, .int .i64 tick, .int .i64 wait, .int .i64 pid, .int .i64 nonce, .int .i64 code] 35).alloc #[.int .u8 0, .int .i64 0, .int .i64 0, .int .i64 0, .int .i64 0, .int .i64 0, .slice none 0 0, .slice none 0 0, .int .i64 0, .int .i64 0, .int .i64 0, .int .i64 0, .int .i64 0, .int .i64 0, .int .i64 0] 35
 have hn1 : (w.alloc (Obj.cells #[.int .u8 kind, .int .i64 e, .int .i64 a, .int .i64 b, .int .i64 c, .int .i64 d, .slice A n p, .slice B m q, .int .i64 id, .int .i64 v, .int .i64 tick, .int .i64 wait, .int .i64 pid, .int .i64 nonce, .int .i64 code] 35)).heap.size = w.heap.size + 1 := by simp
 rw [hn1] at s0
 have S3 := Lib.hid s0
 clear s0 h hn1
 go_enter Try.func50, Try.ntmps50
 go_wp2_with (first | ((with_reducible refine wpList_storeSt S3.out rfl _ _ 35 rfl 0 #[.int .u8 kind, .int .i64 e, .int .i64 a, .int .i64 b, .int .i64 c, .int .i64 d, .slice A n p, .slice B m q, .int .i64 id, .int .i64 v, .int .i64 tick, .int .i64 wait, .int .i64 pid, .int .i64 nonce, .int .i64 code] #[.int .u8 kind, .int .i64 e, .int .i64 a, .int .i64 b, .int .i64 c, .int .i64 d, .slice A n p, .slice B m q, .int .i64 id, .int .i64 v, .int .i64 tick, .int .i64 wait, .int .i64 pid, .int .i64 nonce, .int .i64 code] size_rec ?hn ?hx ?hv ?hf ?h1 ?he ?_); (case hn => rfl); (case hx => rfl); (case hv => rfl); (case hf => simp); (case h1 => simp [Value.oneCell']); (case he => rfl); intro wz sz; have hcz := sz.cells; have hfz := sz.free; have SZ := Lib.hid sz; clear sz) | fail)
 refine bodyPost_ret (v := .agg #[.int .u8 kind, .int .i64 e, .int .i64 a, .int .i64 b, .int .i64 c, .int .i64 d, .slice A n p, .slice B m q, .int .i64 id, .int .i64 v, .int .i64 tick, .int .i64 wait, .int .i64 pid, .int .i64 nonce, .int .i64 code]) (by simp [results, Try.results50, go_sem, hcz]) rfl ?_
 exact ⟨rfl, SZ.out.drop.drop⟩
set_option maxRecDepth 100000 in
set_option maxHeartbeats 1000000 in
theorem rwith_3 {w0 w : World} {L : List HP} (kind e a b c d id task tick wait pid nonce code v : Int) (A B : Option Addr) (n m p q : Nat) (h : St w0 w L) :
  Calls Try.prog 50 #[.agg #[.int .u8 kind, .int .i64 e, .int .i64 a, .int .i64 b, .int .i64 c, .int .i64 d, .slice A n p, .slice B m q, .int .i64 id, .int .i64 task, .int .i64 tick, .int .i64 wait, .int .i64 pid, .int .i64 nonce, .int .i64 code], .int .i64 3, .int .i64 v] w fun ee w' => ee = .returned (.agg #[.int .u8 kind, .int .i64 e, .int .i64 a, .int .i64 b, .int .i64 c, .int .i64 d, .slice A n p, .slice B m q, .int .i64 id, .int .i64 task, .int .i64 v, .int .i64 wait, .int .i64 pid, .int .i64 nonce, .int .i64 code]) ∧ St w0 w' L := by
 have s0 := (h.alloc #[.int .u8 kind, .int .i64 e, .int .i64 a, .int .i64 b, .int .i64 c, .int .i64 d, .slice A n p, .slice B m q, .int .i64 id, .int .i64 task, .int .i64 v, .int .i64 wait, .int .i64 pid, .int .i64 nonce, .int .i64 code] 35).alloc #[.int .u8 0, .int .i64 0, .int .i64 0, .int .i64 0, .int .i64 0, .int .i64 0, .slice none 0 0, .slice none 0 0, .int .i64 0, .int .i64 0, .int .i64 0, .int .i64 0, .int .i64 0, .int .i64 0, .int .i64 0] 35
 have hn1 : (w.alloc (Obj.cells #[.int .u8 kind, .int .i64 e, .int .i64 a, .int .i64 b, .int .i64 c, .int .i64 d, .slice A n p, .slice B m q, .int .i64 id, .int .i64 task, .int .i64 v, .int .i64 wait, .int .i64 pid, .int .i64 nonce, .int .i64 code] 35)).heap.size = w.heap.size + 1 := by simp
 rw [hn1] at s0
 have S3 := Lib.hid s0
 clear s0 h hn1
 go_enter Try.func50, Try.ntmps50
 go_wp2_with (first | ((with_reducible refine wpList_storeSt S3.out rfl _ _ 35 rfl 0 #[.int .u8 kind, .int .i64 e, .int .i64 a, .int .i64 b, .int .i64 c, .int .i64 d, .slice A n p, .slice B m q, .int .i64 id, .int .i64 task, .int .i64 v, .int .i64 wait, .int .i64 pid, .int .i64 nonce, .int .i64 code] #[.int .u8 kind, .int .i64 e, .int .i64 a, .int .i64 b, .int .i64 c, .int .i64 d, .slice A n p, .slice B m q, .int .i64 id, .int .i64 task, .int .i64 v, .int .i64 wait, .int .i64 pid, .int .i64 nonce, .int .i64 code] size_rec ?hn ?hx ?hv ?hf ?h1 ?he ?_); (case hn => rfl); (case hx => rfl); (case hv => rfl); (case hf => simp); (case h1 => simp [Value.oneCell']); (case he => rfl); intro wz sz; have hcz := sz.cells; have hfz := sz.free; have SZ := Lib.hid sz; clear sz) | fail)
 refine bodyPost_ret (v := .agg #[.int .u8 kind, .int .i64 e, .int .i64 a, .int .i64 b, .int .i64 c, .int .i64 d, .slice A n p, .slice B m q, .int .i64 id, .int .i64 task, .int .i64 v, .int .i64 wait, .int .i64 pid, .int .i64 nonce, .int .i64 code]) (by simp [results, Try.results50, go_sem, hcz]) rfl ?_
 exact ⟨rfl, SZ.out.drop.drop⟩
set_option maxRecDepth 100000 in
set_option maxHeartbeats 1000000 in
theorem rwith_4 {w0 w : World} {L : List HP} (kind e a b c d id task tick wait pid nonce code v : Int) (A B : Option Addr) (n m p q : Nat) (h : St w0 w L) :
  Calls Try.prog 50 #[.agg #[.int .u8 kind, .int .i64 e, .int .i64 a, .int .i64 b, .int .i64 c, .int .i64 d, .slice A n p, .slice B m q, .int .i64 id, .int .i64 task, .int .i64 tick, .int .i64 wait, .int .i64 pid, .int .i64 nonce, .int .i64 code], .int .i64 4, .int .i64 v] w fun ee w' => ee = .returned (.agg #[.int .u8 kind, .int .i64 e, .int .i64 a, .int .i64 b, .int .i64 c, .int .i64 d, .slice A n p, .slice B m q, .int .i64 id, .int .i64 task, .int .i64 tick, .int .i64 v, .int .i64 pid, .int .i64 nonce, .int .i64 code]) ∧ St w0 w' L := by
 have s0 := (h.alloc #[.int .u8 kind, .int .i64 e, .int .i64 a, .int .i64 b, .int .i64 c, .int .i64 d, .slice A n p, .slice B m q, .int .i64 id, .int .i64 task, .int .i64 tick, .int .i64 v, .int .i64 pid, .int .i64 nonce, .int .i64 code] 35).alloc #[.int .u8 0, .int .i64 0, .int .i64 0, .int .i64 0, .int .i64 0, .int .i64 0, .slice none 0 0, .slice none 0 0, .int .i64 0, .int .i64 0, .int .i64 0, .int .i64 0, .int .i64 0, .int .i64 0, .int .i64 0] 35
 have hn1 : (w.alloc (Obj.cells #[.int .u8 kind, .int .i64 e, .int .i64 a, .int .i64 b, .int .i64 c, .int .i64 d, .slice A n p, .slice B m q, .int .i64 id, .int .i64 task, .int .i64 tick, .int .i64 v, .int .i64 pid, .int .i64 nonce, .int .i64 code] 35)).heap.size = w.heap.size + 1 := by simp
 rw [hn1] at s0
 have S3 := Lib.hid s0
 clear s0 h hn1
 go_enter Try.func50, Try.ntmps50
 go_wp2_with (first | ((with_reducible refine wpList_storeSt S3.out rfl _ _ 35 rfl 0 #[.int .u8 kind, .int .i64 e, .int .i64 a, .int .i64 b, .int .i64 c, .int .i64 d, .slice A n p, .slice B m q, .int .i64 id, .int .i64 task, .int .i64 tick, .int .i64 v, .int .i64 pid, .int .i64 nonce, .int .i64 code] #[.int .u8 kind, .int .i64 e, .int .i64 a, .int .i64 b, .int .i64 c, .int .i64 d, .slice A n p, .slice B m q, .int .i64 id, .int .i64 task, .int .i64 tick, .int .i64 v, .int .i64 pid, .int .i64 nonce, .int .i64 code] size_rec ?hn ?hx ?hv ?hf ?h1 ?he ?_); (case hn => rfl); (case hx => rfl); (case hv => rfl); (case hf => simp); (case h1 => simp [Value.oneCell']); (case he => rfl); intro wz sz; have hcz := sz.cells; have hfz := sz.free; have SZ := Lib.hid sz; clear sz) | fail)
 refine bodyPost_ret (v := .agg #[.int .u8 kind, .int .i64 e, .int .i64 a, .int .i64 b, .int .i64 c, .int .i64 d, .slice A n p, .slice B m q, .int .i64 id, .int .i64 task, .int .i64 tick, .int .i64 v, .int .i64 pid, .int .i64 nonce, .int .i64 code]) (by simp [results, Try.results50, go_sem, hcz]) rfl ?_
 exact ⟨rfl, SZ.out.drop.drop⟩
set_option maxRecDepth 100000 in
set_option maxHeartbeats 1000000 in
theorem rwith_5 {w0 w : World} {L : List HP} (kind e a b c d id task tick wait pid nonce code v : Int) (A B : Option Addr) (n m p q : Nat) (h : St w0 w L) :
  Calls Try.prog 50 #[.agg #[.int .u8 kind, .int .i64 e, .int .i64 a, .int .i64 b, .int .i64 c, .int .i64 d, .slice A n p, .slice B m q, .int .i64 id, .int .i64 task, .int .i64 tick, .int .i64 wait, .int .i64 pid, .int .i64 nonce, .int .i64 code], .int .i64 5, .int .i64 v] w fun ee w' => ee = .returned (.agg #[.int .u8 kind, .int .i64 e, .int .i64 a, .int .i64 b, .int .i64 c, .int .i64 d, .slice A n p, .slice B m q, .int .i64 id, .int .i64 task, .int .i64 tick, .int .i64 wait, .int .i64 v, .int .i64 nonce, .int .i64 code]) ∧ St w0 w' L := by
 have s0 := (h.alloc #[.int .u8 kind, .int .i64 e, .int .i64 a, .int .i64 b, .int .i64 c, .int .i64 d, .slice A n p, .slice B m q, .int .i64 id, .int .i64 task, .int .i64 tick, .int .i64 wait, .int .i64 v, .int .i64 nonce, .int .i64 code] 35).alloc #[.int .u8 0, .int .i64 0, .int .i64 0, .int .i64 0, .int .i64 0, .int .i64 0, .slice none 0 0, .slice none 0 0, .int .i64 0, .int .i64 0, .int .i64 0, .int .i64 0, .int .i64 0, .int .i64 0, .int .i64 0] 35
 have hn1 : (w.alloc (Obj.cells #[.int .u8 kind, .int .i64 e, .int .i64 a, .int .i64 b, .int .i64 c, .int .i64 d, .slice A n p, .slice B m q, .int .i64 id, .int .i64 task, .int .i64 tick, .int .i64 wait, .int .i64 v, .int .i64 nonce, .int .i64 code] 35)).heap.size = w.heap.size + 1 := by simp
 rw [hn1] at s0
 have S3 := Lib.hid s0
 clear s0 h hn1
 go_enter Try.func50, Try.ntmps50
 go_wp2_with (first | ((with_reducible refine wpList_storeSt S3.out rfl _ _ 35 rfl 0 #[.int .u8 kind, .int .i64 e, .int .i64 a, .int .i64 b, .int .i64 c, .int .i64 d, .slice A n p, .slice B m q, .int .i64 id, .int .i64 task, .int .i64 tick, .int .i64 wait, .int .i64 v, .int .i64 nonce, .int .i64 code] #[.int .u8 kind, .int .i64 e, .int .i64 a, .int .i64 b, .int .i64 c, .int .i64 d, .slice A n p, .slice B m q, .int .i64 id, .int .i64 task, .int .i64 tick, .int .i64 wait, .int .i64 v, .int .i64 nonce, .int .i64 code] size_rec ?hn ?hx ?hv ?hf ?h1 ?he ?_); (case hn => rfl); (case hx => rfl); (case hv => rfl); (case hf => simp); (case h1 => simp [Value.oneCell']); (case he => rfl); intro wz sz; have hcz := sz.cells; have hfz := sz.free; have SZ := Lib.hid sz; clear sz) | fail)
 refine bodyPost_ret (v := .agg #[.int .u8 kind, .int .i64 e, .int .i64 a, .int .i64 b, .int .i64 c, .int .i64 d, .slice A n p, .slice B m q, .int .i64 id, .int .i64 task, .int .i64 tick, .int .i64 wait, .int .i64 v, .int .i64 nonce, .int .i64 code]) (by simp [results, Try.results50, go_sem, hcz]) rfl ?_
 exact ⟨rfl, SZ.out.drop.drop⟩
set_option maxRecDepth 100000 in
set_option maxHeartbeats 1000000 in
theorem rwith_6 {w0 w : World} {L : List HP} (kind e a b c d id task tick wait pid nonce code v : Int) (A B : Option Addr) (n m p q : Nat) (h : St w0 w L) :
  Calls Try.prog 50 #[.agg #[.int .u8 kind, .int .i64 e, .int .i64 a, .int .i64 b, .int .i64 c, .int .i64 d, .slice A n p, .slice B m q, .int .i64 id, .int .i64 task, .int .i64 tick, .int .i64 wait, .int .i64 pid, .int .i64 nonce, .int .i64 code], .int .i64 6, .int .i64 v] w fun ee w' => ee = .returned (.agg #[.int .u8 kind, .int .i64 e, .int .i64 a, .int .i64 b, .int .i64 c, .int .i64 d, .slice A n p, .slice B m q, .int .i64 id, .int .i64 task, .int .i64 tick, .int .i64 wait, .int .i64 pid, .int .i64 v, .int .i64 code]) ∧ St w0 w' L := by
 have s0 := (h.alloc #[.int .u8 kind, .int .i64 e, .int .i64 a, .int .i64 b, .int .i64 c, .int .i64 d, .slice A n p, .slice B m q, .int .i64 id, .int .i64 task, .int .i64 tick, .int .i64 wait, .int .i64 pid, .int .i64 v, .int .i64 code] 35).alloc #[.int .u8 0, .int .i64 0, .int .i64 0, .int .i64 0, .int .i64 0, .int .i64 0, .slice none 0 0, .slice none 0 0, .int .i64 0, .int .i64 0, .int .i64 0, .int .i64 0, .int .i64 0, .int .i64 0, .int .i64 0] 35
 have hn1 : (w.alloc (Obj.cells #[.int .u8 kind, .int .i64 e, .int .i64 a, .int .i64 b, .int .i64 c, .int .i64 d, .slice A n p, .slice B m q, .int .i64 id, .int .i64 task, .int .i64 tick, .int .i64 wait, .int .i64 pid, .int .i64 v, .int .i64 code] 35)).heap.size = w.heap.size + 1 := by simp
 rw [hn1] at s0
 have S3 := Lib.hid s0
 clear s0 h hn1
 go_enter Try.func50, Try.ntmps50
 go_wp2_with (first | ((with_reducible refine wpList_storeSt S3.out rfl _ _ 35 rfl 0 #[.int .u8 kind, .int .i64 e, .int .i64 a, .int .i64 b, .int .i64 c, .int .i64 d, .slice A n p, .slice B m q, .int .i64 id, .int .i64 task, .int .i64 tick, .int .i64 wait, .int .i64 pid, .int .i64 v, .int .i64 code] #[.int .u8 kind, .int .i64 e, .int .i64 a, .int .i64 b, .int .i64 c, .int .i64 d, .slice A n p, .slice B m q, .int .i64 id, .int .i64 task, .int .i64 tick, .int .i64 wait, .int .i64 pid, .int .i64 v, .int .i64 code] size_rec ?hn ?hx ?hv ?hf ?h1 ?he ?_); (case hn => rfl); (case hx => rfl); (case hv => rfl); (case hf => simp); (case h1 => simp [Value.oneCell']); (case he => rfl); intro wz sz; have hcz := sz.cells; have hfz := sz.free; have SZ := Lib.hid sz; clear sz) | fail)
 refine bodyPost_ret (v := .agg #[.int .u8 kind, .int .i64 e, .int .i64 a, .int .i64 b, .int .i64 c, .int .i64 d, .slice A n p, .slice B m q, .int .i64 id, .int .i64 task, .int .i64 tick, .int .i64 wait, .int .i64 pid, .int .i64 v, .int .i64 code]) (by simp [results, Try.results50, go_sem, hcz]) rfl ?_
 exact ⟨rfl, SZ.out.drop.drop⟩
set_option maxRecDepth 100000 in
set_option maxHeartbeats 1000000 in
theorem rget_0 {w0 w : World} {L : List HP} (kind e a b c d id task tick wait pid nonce code : Int) (A B : Option Addr) (n m p q : Nat) (h : St w0 w L) :
  Calls Try.prog 55 #[.agg #[.int .u8 kind, .int .i64 e, .int .i64 a, .int .i64 b, .int .i64 c, .int .i64 d, .slice A n p, .slice B m q, .int .i64 id, .int .i64 task, .int .i64 tick, .int .i64 wait, .int .i64 pid, .int .i64 nonce, .int .i64 code], .int .i64 0] w fun ee w' => ee = .returned (.int .i64 e) ∧ St w0 w' L := by
 have s0 := h.alloc #[.int .u8 kind, .int .i64 e, .int .i64 a, .int .i64 b, .int .i64 c, .int .i64 d, .slice A n p, .slice B m q, .int .i64 id, .int .i64 task, .int .i64 tick, .int .i64 wait, .int .i64 pid, .int .i64 nonce, .int .i64 code] 35
 have hcx := s0.cells
 have s1 := s0.alloc #[.int .i64 e, .int .i64 id, .int .i64 task, .int .i64 tick, .int .i64 wait, .int .i64 pid, .int .i64 nonce] 3
 have hcy := s1.cells
 have S1 := Lib.hid s1
 clear s0 s1 h
 go_enter Try.func55, Try.ntmps55
 go_wp2
 go_returns
 exact ⟨rfl, S1.out.drop.drop⟩
set_option maxRecDepth 100000 in
set_option maxHeartbeats 1000000 in
theorem rget_1 {w0 w : World} {L : List HP} (kind e a b c d id task tick wait pid nonce code : Int) (A B : Option Addr) (n m p q : Nat) (h : St w0 w L) :
  Calls Try.prog 55 #[.agg #[.int .u8 kind, .int .i64 e, .int .i64 a, .int .i64 b, .int .i64 c, .int .i64 d, .slice A n p, .slice B m q, .int .i64 id, .int .i64 task, .int .i64 tick, .int .i64 wait, .int .i64 pid, .int .i64 nonce, .int .i64 code], .int .i64 1] w fun ee w' => ee = .returned (.int .i64 id) ∧ St w0 w' L := by
 have s0 := h.alloc #[.int .u8 kind, .int .i64 e, .int .i64 a, .int .i64 b, .int .i64 c, .int .i64 d, .slice A n p, .slice B m q, .int .i64 id, .int .i64 task, .int .i64 tick, .int .i64 wait, .int .i64 pid, .int .i64 nonce, .int .i64 code] 35
 have hcx := s0.cells
 have s1 := s0.alloc #[.int .i64 e, .int .i64 id, .int .i64 task, .int .i64 tick, .int .i64 wait, .int .i64 pid, .int .i64 nonce] 3
 have hcy := s1.cells
 have S1 := Lib.hid s1
 clear s0 s1 h
 go_enter Try.func55, Try.ntmps55
 go_wp2
 go_returns
 exact ⟨rfl, S1.out.drop.drop⟩
set_option maxRecDepth 100000 in
set_option maxHeartbeats 1000000 in
theorem rget_2 {w0 w : World} {L : List HP} (kind e a b c d id task tick wait pid nonce code : Int) (A B : Option Addr) (n m p q : Nat) (h : St w0 w L) :
  Calls Try.prog 55 #[.agg #[.int .u8 kind, .int .i64 e, .int .i64 a, .int .i64 b, .int .i64 c, .int .i64 d, .slice A n p, .slice B m q, .int .i64 id, .int .i64 task, .int .i64 tick, .int .i64 wait, .int .i64 pid, .int .i64 nonce, .int .i64 code], .int .i64 2] w fun ee w' => ee = .returned (.int .i64 task) ∧ St w0 w' L := by
 have s0 := h.alloc #[.int .u8 kind, .int .i64 e, .int .i64 a, .int .i64 b, .int .i64 c, .int .i64 d, .slice A n p, .slice B m q, .int .i64 id, .int .i64 task, .int .i64 tick, .int .i64 wait, .int .i64 pid, .int .i64 nonce, .int .i64 code] 35
 have hcx := s0.cells
 have s1 := s0.alloc #[.int .i64 e, .int .i64 id, .int .i64 task, .int .i64 tick, .int .i64 wait, .int .i64 pid, .int .i64 nonce] 3
 have hcy := s1.cells
 have S1 := Lib.hid s1
 clear s0 s1 h
 go_enter Try.func55, Try.ntmps55
 go_wp2
 go_returns
 exact ⟨rfl, S1.out.drop.drop⟩
set_option maxRecDepth 100000 in
set_option maxHeartbeats 1000000 in
theorem rget_3 {w0 w : World} {L : List HP} (kind e a b c d id task tick wait pid nonce code : Int) (A B : Option Addr) (n m p q : Nat) (h : St w0 w L) :
  Calls Try.prog 55 #[.agg #[.int .u8 kind, .int .i64 e, .int .i64 a, .int .i64 b, .int .i64 c, .int .i64 d, .slice A n p, .slice B m q, .int .i64 id, .int .i64 task, .int .i64 tick, .int .i64 wait, .int .i64 pid, .int .i64 nonce, .int .i64 code], .int .i64 3] w fun ee w' => ee = .returned (.int .i64 tick) ∧ St w0 w' L := by
 have s0 := h.alloc #[.int .u8 kind, .int .i64 e, .int .i64 a, .int .i64 b, .int .i64 c, .int .i64 d, .slice A n p, .slice B m q, .int .i64 id, .int .i64 task, .int .i64 tick, .int .i64 wait, .int .i64 pid, .int .i64 nonce, .int .i64 code] 35
 have hcx := s0.cells
 have s1 := s0.alloc #[.int .i64 e, .int .i64 id, .int .i64 task, .int .i64 tick, .int .i64 wait, .int .i64 pid, .int .i64 nonce] 3
 have hcy := s1.cells
 have S1 := Lib.hid s1
 clear s0 s1 h
 go_enter Try.func55, Try.ntmps55
 go_wp2
 go_returns
 exact ⟨rfl, S1.out.drop.drop⟩
set_option maxRecDepth 100000 in
set_option maxHeartbeats 1000000 in
theorem rget_4 {w0 w : World} {L : List HP} (kind e a b c d id task tick wait pid nonce code : Int) (A B : Option Addr) (n m p q : Nat) (h : St w0 w L) :
  Calls Try.prog 55 #[.agg #[.int .u8 kind, .int .i64 e, .int .i64 a, .int .i64 b, .int .i64 c, .int .i64 d, .slice A n p, .slice B m q, .int .i64 id, .int .i64 task, .int .i64 tick, .int .i64 wait, .int .i64 pid, .int .i64 nonce, .int .i64 code], .int .i64 4] w fun ee w' => ee = .returned (.int .i64 wait) ∧ St w0 w' L := by
 have s0 := h.alloc #[.int .u8 kind, .int .i64 e, .int .i64 a, .int .i64 b, .int .i64 c, .int .i64 d, .slice A n p, .slice B m q, .int .i64 id, .int .i64 task, .int .i64 tick, .int .i64 wait, .int .i64 pid, .int .i64 nonce, .int .i64 code] 35
 have hcx := s0.cells
 have s1 := s0.alloc #[.int .i64 e, .int .i64 id, .int .i64 task, .int .i64 tick, .int .i64 wait, .int .i64 pid, .int .i64 nonce] 3
 have hcy := s1.cells
 have S1 := Lib.hid s1
 clear s0 s1 h
 go_enter Try.func55, Try.ntmps55
 go_wp2
 go_returns
 exact ⟨rfl, S1.out.drop.drop⟩
set_option maxRecDepth 100000 in
set_option maxHeartbeats 1000000 in
theorem rget_5 {w0 w : World} {L : List HP} (kind e a b c d id task tick wait pid nonce code : Int) (A B : Option Addr) (n m p q : Nat) (h : St w0 w L) :
  Calls Try.prog 55 #[.agg #[.int .u8 kind, .int .i64 e, .int .i64 a, .int .i64 b, .int .i64 c, .int .i64 d, .slice A n p, .slice B m q, .int .i64 id, .int .i64 task, .int .i64 tick, .int .i64 wait, .int .i64 pid, .int .i64 nonce, .int .i64 code], .int .i64 5] w fun ee w' => ee = .returned (.int .i64 pid) ∧ St w0 w' L := by
 have s0 := h.alloc #[.int .u8 kind, .int .i64 e, .int .i64 a, .int .i64 b, .int .i64 c, .int .i64 d, .slice A n p, .slice B m q, .int .i64 id, .int .i64 task, .int .i64 tick, .int .i64 wait, .int .i64 pid, .int .i64 nonce, .int .i64 code] 35
 have hcx := s0.cells
 have s1 := s0.alloc #[.int .i64 e, .int .i64 id, .int .i64 task, .int .i64 tick, .int .i64 wait, .int .i64 pid, .int .i64 nonce] 3
 have hcy := s1.cells
 have S1 := Lib.hid s1
 clear s0 s1 h
 go_enter Try.func55, Try.ntmps55
 go_wp2
 go_returns
 exact ⟨rfl, S1.out.drop.drop⟩
set_option maxRecDepth 100000 in
set_option maxHeartbeats 1000000 in
theorem rget_6 {w0 w : World} {L : List HP} (kind e a b c d id task tick wait pid nonce code : Int) (A B : Option Addr) (n m p q : Nat) (h : St w0 w L) :
  Calls Try.prog 55 #[.agg #[.int .u8 kind, .int .i64 e, .int .i64 a, .int .i64 b, .int .i64 c, .int .i64 d, .slice A n p, .slice B m q, .int .i64 id, .int .i64 task, .int .i64 tick, .int .i64 wait, .int .i64 pid, .int .i64 nonce, .int .i64 code], .int .i64 6] w fun ee w' => ee = .returned (.int .i64 nonce) ∧ St w0 w' L := by
 have s0 := h.alloc #[.int .u8 kind, .int .i64 e, .int .i64 a, .int .i64 b, .int .i64 c, .int .i64 d, .slice A n p, .slice B m q, .int .i64 id, .int .i64 task, .int .i64 tick, .int .i64 wait, .int .i64 pid, .int .i64 nonce, .int .i64 code] 35
 have hcx := s0.cells
 have s1 := s0.alloc #[.int .i64 e, .int .i64 id, .int .i64 task, .int .i64 tick, .int .i64 wait, .int .i64 pid, .int .i64 nonce] 3
 have hcy := s1.cells
 have S1 := Lib.hid s1
 clear s0 s1 h
 go_enter Try.func55, Try.ntmps55
 go_wp2
 go_returns
 exact ⟨rfl, S1.out.drop.drop⟩
theorem rget_s {w0 w : World} {L : List HP} (kind e a b c d id task tick wait pid nonce code : Int) (A B : Option Addr) (n m p q : Nat) (f : Int) (hf : 0 ≤ f ∧ f < 7) (h : St w0 w L) :
  Calls Try.prog 55 #[.agg #[.int .u8 kind, .int .i64 e, .int .i64 a, .int .i64 b, .int .i64 c, .int .i64 d, .slice A n p, .slice B m q, .int .i64 id, .int .i64 task, .int .i64 tick, .int .i64 wait, .int .i64 pid, .int .i64 nonce, .int .i64 code], .int .i64 f] w fun ee w' => ee = .returned (.int .i64 (rd [e, id, task, tick, wait, pid, nonce] f)) ∧ St w0 w' L := by
 have : f = 0 ∨ f = 1 ∨ f = 2 ∨ f = 3 ∨ f = 4 ∨ f = 5 ∨ f = 6 := by omega
 rcases this with rfl | rfl | rfl | rfl | rfl | rfl | rfl
 ·exact rget_0 kind e a b c d id task tick wait pid nonce code A B n m p q h
 ·exact rget_1 kind e a b c d id task tick wait pid nonce code A B n m p q h
 ·exact rget_2 kind e a b c d id task tick wait pid nonce code A B n m p q h
 ·exact rget_3 kind e a b c d id task tick wait pid nonce code A B n m p q h
 ·exact rget_4 kind e a b c d id task tick wait pid nonce code A B n m p q h
 ·exact rget_5 kind e a b c d id task tick wait pid nonce code A B n m p q h
 ·exact rget_6 kind e a b c d id task tick wait pid nonce code A B n m p q h
theorem rwith_s {w0 w : World} {L : List HP} (kind e a b c d id task tick wait pid nonce code v : Int) (A B : Option Addr) (n m p q : Nat) (f : Int) (hf : 0 ≤ f ∧ f < 7) (h : St w0 w L) :
  Calls Try.prog 50 #[.agg #[.int .u8 kind, .int .i64 e, .int .i64 a, .int .i64 b, .int .i64 c, .int .i64 d, .slice A n p, .slice B m q, .int .i64 id, .int .i64 task, .int .i64 tick, .int .i64 wait, .int .i64 pid, .int .i64 nonce, .int .i64 code], .int .i64 f, .int .i64 v] w fun ee w' => ee = .returned (.agg #[.int .u8 kind, .int .i64 (if f = 0 then v else e), .int .i64 a, .int .i64 b, .int .i64 c, .int .i64 d, .slice A n p, .slice B m q, .int .i64 (if f = 1 then v else id), .int .i64 (if f = 2 then v else task), .int .i64 (if f = 3 then v else tick), .int .i64 (if f = 4 then v else wait), .int .i64 (if f = 5 then v else pid), .int .i64 (if f = 6 then v else nonce), .int .i64 code]) ∧ St w0 w' L := by
 have : f = 0 ∨ f = 1 ∨ f = 2 ∨ f = 3 ∨ f = 4 ∨ f = 5 ∨ f = 6 := by omega
 rcases this with rfl | rfl | rfl | rfl | rfl | rfl | rfl
 ·simpa using rwith_0 kind e a b c d id task tick wait pid nonce code v A B n m p q h
 ·simpa using rwith_1 kind e a b c d id task tick wait pid nonce code v A B n m p q h
 ·simpa using rwith_2 kind e a b c d id task tick wait pid nonce code v A B n m p q h
 ·simpa using rwith_3 kind e a b c d id task tick wait pid nonce code v A B n m p q h
 ·simpa using rwith_4 kind e a b c d id task tick wait pid nonce code v A B n m p q h
 ·simpa using rwith_5 kind e a b c d id task tick wait pid nonce code v A B n m p q h
 ·simpa using rwith_6 kind e a b c d id task tick wait pid nonce code v A B n m p q h
end Go.Proofs.YtkhcdichdnbcmaaR
end
