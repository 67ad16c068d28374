/- The law ProbeExamples. Printed by gen/probe12.py. -/
import Derived.Test.YtccehechhdndmaaBase
import Derived.Test.YtccehechhdndmaaSep
import Derived.Test.YtccehechhdndmaaSepB
import Derived.Test.YtccehechhdndmaaOpen
import Derived.Test.YtccehechhdndmaaProg
import Derived.Lib.Hide
import Derived.Deep.Cut
import Derived.Deep.CutRange
import Derived.Deep.RegionWith
import Derived.Test.YtccehechhdndmaaWWords
import Derived.Test.YtccehechhdndmaaPr0
import Derived.Test.YtccehechhdndmaaPr1
import Derived.Test.YtccehechhdndmaaPr2
import Derived.Test.YtccehechhdndmaaPr3
import Derived.Test.YtccehechhdndmaaPr4
import Derived.Test.YtccehechhdndmaaPr5
import Derived.Test.YtccehechhdndmaaPr7
import Derived.Test.YtccehechhdndmaaPr8
import Derived.Test.YtccehechhdndmaaPr9
import Derived.Test.YtccehechhdndmaaPr10
import Derived.Test.YtccehechhdndmaaPr11
namespace Go.Proofs.Ytccehechhdndmaa
open Go.RowKit Go.Proofs.YtccehechhdndmaaW.PrintWords
set_option linter.unusedSimpArgs false
set_option linter.unusedVariables false

abbrev DEs := E39
def exL (kb : Nat) : List DEs := [⟨7, 0, 1, false, false, none, 0, []⟩, ⟨7, 0, 1, false, false, none, 0, []⟩, ⟨8, 0, 2, false, false, none, 0, []⟩, ⟨(-1), 0, 1, false, false, none, 0, []⟩, ⟨7, 0, 1, true, false, none, 0, []⟩, ⟨7, 0, 1, false, false, none, 0, []⟩, ⟨0, 0, 0, false, true, some ⟨kb, 0, none⟩, 3, [⟨8, 0, 2⟩, ⟨8, 0, 2⟩, ⟨-1, 0, 1⟩]⟩, ⟨8, 0, 2, false, false, none, 0, []⟩, ⟨0, 0, 0, false, true, none, 0, []⟩, ⟨8, 0, 2, false, false, none, 0, []⟩, ⟨8, 0, 2, true, false, none, 0, []⟩]
def ex9 : Array Value := #[.int .i64 8, .int .i64 0, .int .i64 2, .int .i64 8, .int .i64 0, .int .i64 2, .int .i64 (-1), .int .i64 0, .int .i64 1]
def ex66 (kb : Nat) : Array Value := #[.int .i64 7, .int .i64 0, .int .i64 1, .bool false, .bool false, .slice none 0 0, .int .i64 7, .int .i64 0, .int .i64 1, .bool false, .bool false, .slice none 0 0, .int .i64 8, .int .i64 0, .int .i64 2, .bool false, .bool false, .slice none 0 0, .int .i64 (-1), .int .i64 0, .int .i64 1, .bool false, .bool false, .slice none 0 0, .int .i64 7, .int .i64 0, .int .i64 1, .bool true, .bool false, .slice none 0 0, .int .i64 7, .int .i64 0, .int .i64 1, .bool false, .bool false, .slice none 0 0, .int .i64 0, .int .i64 0, .int .i64 0, .bool false, .bool true, .slice (some ⟨kb, 0, none⟩) 3 3, .int .i64 8, .int .i64 0, .int .i64 2, .bool false, .bool false, .slice none 0 0, .int .i64 0, .int .i64 0, .int .i64 0, .bool false, .bool true, .slice none 0 0, .int .i64 8, .int .i64 0, .int .i64 2, .bool false, .bool false, .slice none 0 0, .int .i64 8, .int .i64 0, .int .i64 2, .bool true, .bool false, .slice none 0 0]
theorem ex_len (kb : Nat) : (exL kb).length = 11 := rfl
theorem ex_sl {w : World} {b kb : Nat} (h9 : w.heap[kb]? = some (.cells ex9 32 (0, 0))) (h66 : w.heap[b]? = some (.cells (ex66 kb) 39 (0, 0))) (lo n off cap : Nat) (hn : lo + n ≤ 11) (hc : n ≤ cap) (hm : cap ≤ maxLen) (ho : off = lo * 6) :
    SL30 w (some ⟨b, off, none⟩) cap (((exL kb).drop lo).take n) ∧ (((exL kb).drop lo).take n).length = n := by
  have hlen : (((exL kb).drop lo).take n).length = n := by simp [ex_len]; omega
  refine ⟨⟨by rw [hlen]; exact hc, hm, Or.inr ⟨b, off, rfl, vlt h66, fun k hk => ?_⟩⟩, hlen⟩
  rw [hlen] at hk
  have e : rdE39 (((exL kb).drop lo).take n) k = rdE39 (exL kb) (lo + k) := by simp [rdE39, List.getElem?_take, hk]
  rw [e]
  have ho2 : off + k * 6 = (lo + k) * 6 := by rw [ho]; omega
  rw [ho2]
  have hj : lo + k < 11 := by omega
  generalize lo + k = j at *
  clear e hk hn hc hm ho ho2 hlen
  have c9 := vcell h9
  have c66 := vcell h66
  have hkl := vlt h9
  have hk3 : SL37 w (some ⟨kb, 0, none⟩) 3 [⟨8, 0, 2⟩, ⟨8, 0, 2⟩, ⟨-1, 0, 1⟩] := by
    refine ⟨by decide, by decide, Or.inr ⟨kb, 0, rfl, hkl, fun k hk => ?_⟩⟩
    match k, hk with
    | 0, _ => exact ⟨c9 0, by decide, c9 1, by decide, c9 2, by decide⟩
    | 1, _ => exact ⟨c9 3, by decide, c9 4, by decide, c9 5, by decide⟩
    | 2, _ => exact ⟨c9 6, by decide, c9 7, by decide, c9 8, by decide⟩
  have hk0 : SL37 w none 0 [] := ⟨Nat.le_refl _, Nat.zero_le _, Or.inl rfl⟩
  match j, hj with
  | 0, _ => exact ⟨c66 0, rfl, c66 1, rfl, c66 2, rfl, c66 3, c66 4, c66 5, hk0⟩
  | 1, _ => exact ⟨c66 6, rfl, c66 7, rfl, c66 8, rfl, c66 9, c66 10, c66 11, hk0⟩
  | 2, _ => exact ⟨c66 12, rfl, c66 13, rfl, c66 14, rfl, c66 15, c66 16, c66 17, hk0⟩
  | 3, _ => exact ⟨c66 18, rfl, c66 19, rfl, c66 20, rfl, c66 21, c66 22, c66 23, hk0⟩
  | 4, _ => exact ⟨c66 24, rfl, c66 25, rfl, c66 26, rfl, c66 27, c66 28, c66 29, hk0⟩
  | 5, _ => exact ⟨c66 30, rfl, c66 31, rfl, c66 32, rfl, c66 33, c66 34, c66 35, hk0⟩
  | 6, _ => exact ⟨c66 36, rfl, c66 37, rfl, c66 38, rfl, c66 39, c66 40, c66 41, hk3⟩
  | 7, _ => exact ⟨c66 42, rfl, c66 43, rfl, c66 44, rfl, c66 45, c66 46, c66 47, hk0⟩
  | 8, _ => exact ⟨c66 48, rfl, c66 49, rfl, c66 50, rfl, c66 51, c66 52, c66 53, hk0⟩
  | 9, _ => exact ⟨c66 54, rfl, c66 55, rfl, c66 56, rfl, c66 57, c66 58, c66 59, hk0⟩
  | 10, _ => exact ⟨c66 60, rfl, c66 61, rfl, c66 62, rfl, c66 63, c66 64, c66 65, hk0⟩
theorem match_n (w : World) (A : Option Addr) (c n : Nat) (l : List DEs) (h : SL30 w A c l ∧ l.length = n) (t : Tok) (ht : tokW t) (pr : Int) :
    Calls Try.prog 4 #[.slice A n c, .agg #[.int .i64 t.a, .int .i64 t.b, .int .i64 t.c], .int .i64 pr] w fun e w' => e = .returned (.bool true) ∧ Below w.heap.size w w' := by
  obtain ⟨h, rfl⟩ := h; exact match_w w A c l h t ht pr
theorem keep_np (v : Value) (w : World) : Calls Try.prog 24 #[.pointer none, v] w fun e w' => e = .returned (.tuple #[]) ∧ Below w.heap.size w w' := by
  go_enter Try.func24, Try.ntmps24
  go_wp2
  go_returns
  exact ⟨rfl, Below.refl _ _⟩
theorem tell_np (t : Tok) (ok : Bool) (w : World) : Calls Try.prog 27 #[.pointer none, .agg #[.int .i64 t.a, .int .i64 t.b, .int .i64 t.c], .bool ok] w fun e w' => e = .returned (.int .i64 1) ∧ Below w.heap.size w w' := by
  go_enter Try.func27, Try.ntmps27
  go_wp2
  go_returns
  exact ⟨rfl, by go_grown⟩
theorem fails_np (t : Tok) (w : World) : Calls Try.prog 29 #[.pointer none, .agg #[.int .i64 t.a, .int .i64 t.b, .int .i64 t.c]] w fun e w' => e = .returned (.int .i64 0) ∧ Below w.heap.size w w' := by
  go_enter Try.func29, Try.ntmps29
  go_wp2
  go_returns
  exact ⟨rfl, by go_grown⟩
theorem sick_np (t : Tok) (k : Int) (w : World) : Calls Try.prog 31 #[.pointer none, .agg #[.int .i64 t.a, .int .i64 t.b, .int .i64 t.c], .int .i64 k] w fun e w' => e = .returned (.bool false) ∧ Below w.heap.size w w' := by
  go_enter Try.func31, Try.ntmps31
  go_wp2
  go_quiet (fail)
  go_wp2
  go_returns
  exact ⟨by first | rfl | simp, below_drewN (by go_grown) _⟩
/-- What lies in memory. -/
structure EX (w wr : World) : Prop where
  a : wr.heap[w.heap.size]? = some (.cells #[.int .i64 7, .int .i64 0, .int .i64 1] 32 (0, 0))
  b : wr.heap[w.heap.size + 1]? = some (.cells #[.int .i64 8, .int .i64 0, .int .i64 2] 32 (0, 0))
  k : wr.heap[w.heap.size + 3]? = some (.cells ex9 32 (0, 0))
  l : wr.heap[w.heap.size + 4]? = some (.cells (ex66 (w.heap.size + 3)) 39 (0, 0))
  bel : Below w.heap.size w wr
theorem EX.more {w W W2 : World} (h : EX w W) (k : Below W.heap.size W W2) : EX w W2 := ⟨vbelow h.a k, vbelow h.b k, vbelow h.k k, vbelow h.l k, below_then h.bel k⟩
set_option maxRecDepth 100000 in
set_option maxHeartbeats 8000000 in
theorem walk_ProbeExamples (w : World) : Calls Try.prog 5 #[] w fun e w' => e = .returned (.bool true) ∧ Below w.heap.size w w' := by
  go_enter Try.func5, Try.ntmps5
  go_wp2_with fail
  go_loopw [5] (fun v wr => ∃ i : Nat, v = .int .i64 i ∧ i ≤ 12 ∧ EX w wr) (fun v _ => 12 - (intOf v).toNat)
  case atStart => exact ⟨0, rfl, by omega, ⟨by (repeat' (first | assumption | (refine vnewAt ?_; first | omega | (simp; done) | (simp; omega)) | refine valloc ?_ | refine vdrew ?_ | apply vput | (refine vfarr ?_ ?_; focus (first | omega | (simp; done) | (simp; omega))) | rfl)), by (repeat' (first | assumption | (refine vnewAt ?_; first | omega | (simp; done) | (simp; omega)) | refine valloc ?_ | refine vdrew ?_ | apply vput | (refine vfarr ?_ ?_; focus (first | omega | (simp; done) | (simp; omega))) | rfl)), by unfold ex9; (repeat' (first | assumption | (refine vnewAt ?_; first | omega | (simp; done) | (simp; omega)) | refine valloc ?_ | refine vdrew ?_ | apply vput | (refine vfarr ?_ ?_; focus (first | omega | (simp; done) | (simp; omega))) | rfl)), by unfold ex66; (repeat' (first | assumption | (refine vnewAt ?_; first | omega | (simp; done) | (simp; omega)) | refine valloc ?_ | refine vdrew ?_ | apply vput | (refine vfarr ?_ ?_; focus (first | omega | (simp; done) | (simp; omega))) | rfl)), by go_grown⟩⟩
  case round =>
    obtain ⟨i, rfl, hi, hx⟩ := hrel
    by_cases mi : i < 12
    · have ki0 : (0 : Int) ≤ (i : Int) := by omega
      have ki1 : (i : Int) ≤ 11 := by omega
      go_wp2_with fail
      go_loopw [6] (fun v wr => ∃ n : Int, v = .int .i64 n ∧ -1 ≤ n ∧ n ≤ 4 ∧ EX w wr) (fun v _ => (4 - intOf v).toNat)
      case atStart => exact ⟨-1, rfl, by omega, by omega, hx⟩
      case round =>
        clear hx
        obtain ⟨n, rfl, hn0, hn, hx⟩ := hrel
        by_cases mn : n < 4
        · have hxu : ∀ v, EX w (wr.up v) := fun v => hx.more (up_below _ _)
          have ca := fun v => vcell (hxu v).a
          have cb := fun v => vcell (hxu v).b
          obtain h | h | h | h | h | h | h | h | h | h | h | h : i = 0 ∨ i = 1 ∨ i = 2 ∨ i = 3 ∨ i = 4 ∨ i = 5 ∨ i = 6 ∨ i = 7 ∨ i = 8 ∨ i = 9 ∨ i = 10 ∨ i = 11 := by omega
          · subst i
            have c1 := fun v => calls_up (match_n (wr.up v) _ 11 0 _ (ex_sl (hxu v).k (hxu v).l 0 0 0 11 (by omega) (by omega) (by decide) rfl) tB tB_w n)
            have c2 := fun v => calls_up (match_n (wr.up v) _ 11 11 _ (ex_sl (hxu v).k (hxu v).l 0 11 0 11 (by omega) (by omega) (by decide) rfl) tA tA_w n)
            simp only [tA, tB] at c1 c2
            clear hxu
            go_wp2
            skip
            refine wp_region_up_lit (by kernel_rfl) (by kernel_rfl) ?_
            repeat (go_big_quiet_step ((first | (with_reducible exact c1 _) | (with_reducible exact c2 _))))
            refine wpQuiet_nil ?_
            intro wz hwz
            have hbz := up_ex hwz
            clear hwz
            have h1 := hx.more hbz
            clear hx hbz c1 c2 ca cb
            go_wp2
            all_goals go_roundw
            all_goals first | exact ⟨n + 1, rfl, by omega, by omega, h1⟩ | (simp [intOf]; omega)
          · subst i
            have c1 := fun v => calls_up (match_n (wr.up v) _ 11 1 _ (ex_sl (hxu v).k (hxu v).l 0 1 0 11 (by omega) (by omega) (by decide) rfl) tB tB_w n)
            have c2 := fun v => calls_up (match_n (wr.up v) _ 10 10 _ (ex_sl (hxu v).k (hxu v).l 1 10 6 10 (by omega) (by omega) (by decide) rfl) tA tA_w n)
            simp only [tA, tB] at c1 c2
            clear hxu
            go_wp2
            skip
            refine wp_region_up_lit (by kernel_rfl) (by kernel_rfl) ?_
            repeat (go_big_quiet_step ((first | (with_reducible exact c1 _) | (with_reducible exact c2 _))))
            refine wpQuiet_nil ?_
            intro wz hwz
            have hbz := up_ex hwz
            clear hwz
            have h1 := hx.more hbz
            clear hx hbz c1 c2 ca cb
            go_wp2
            all_goals go_roundw
            all_goals first | exact ⟨n + 1, rfl, by omega, by omega, h1⟩ | (simp [intOf]; omega)
          · subst i
            have c1 := fun v => calls_up (match_n (wr.up v) _ 11 2 _ (ex_sl (hxu v).k (hxu v).l 0 2 0 11 (by omega) (by omega) (by decide) rfl) tB tB_w n)
            have c2 := fun v => calls_up (match_n (wr.up v) _ 9 9 _ (ex_sl (hxu v).k (hxu v).l 2 9 12 9 (by omega) (by omega) (by decide) rfl) tA tA_w n)
            simp only [tA, tB] at c1 c2
            clear hxu
            go_wp2
            skip
            refine wp_region_up_lit (by kernel_rfl) (by kernel_rfl) ?_
            repeat (go_big_quiet_step ((first | (with_reducible exact c1 _) | (with_reducible exact c2 _))))
            refine wpQuiet_nil ?_
            intro wz hwz
            have hbz := up_ex hwz
            clear hwz
            have h1 := hx.more hbz
            clear hx hbz c1 c2 ca cb
            go_wp2
            all_goals go_roundw
            all_goals first | exact ⟨n + 1, rfl, by omega, by omega, h1⟩ | (simp [intOf]; omega)
          · subst i
            have c1 := fun v => calls_up (match_n (wr.up v) _ 11 3 _ (ex_sl (hxu v).k (hxu v).l 0 3 0 11 (by omega) (by omega) (by decide) rfl) tB tB_w n)
            have c2 := fun v => calls_up (match_n (wr.up v) _ 8 8 _ (ex_sl (hxu v).k (hxu v).l 3 8 18 8 (by omega) (by omega) (by decide) rfl) tA tA_w n)
            simp only [tA, tB] at c1 c2
            clear hxu
            go_wp2
            trace_state
            refine wp_region_up_lit (by kernel_rfl) (by kernel_rfl) ?_
            repeat (go_big_quiet_step ((first | (with_reducible exact c1 _) | (with_reducible exact c2 _))))
            refine wpQuiet_nil ?_
            intro wz hwz
            have hbz := up_ex hwz
            clear hwz
            have h1 := hx.more hbz
            clear hx hbz c1 c2 ca cb
            go_wp2
            all_goals go_roundw
            all_goals first | exact ⟨n + 1, rfl, by omega, by omega, h1⟩ | (simp [intOf]; omega)
          · subst i
            have c1 := fun v => calls_up (match_n (wr.up v) _ 11 4 _ (ex_sl (hxu v).k (hxu v).l 0 4 0 11 (by omega) (by omega) (by decide) rfl) tB tB_w n)
            have c2 := fun v => calls_up (match_n (wr.up v) _ 7 7 _ (ex_sl (hxu v).k (hxu v).l 4 7 24 7 (by omega) (by omega) (by decide) rfl) tA tA_w n)
            simp only [tA, tB] at c1 c2
            clear hxu
            go_wp2
            skip
            refine wp_region_up_lit (by kernel_rfl) (by kernel_rfl) ?_
            repeat (go_big_quiet_step ((first | (with_reducible exact c1 _) | (with_reducible exact c2 _))))
            refine wpQuiet_nil ?_
            intro wz hwz
            have hbz := up_ex hwz
            clear hwz
            have h1 := hx.more hbz
            clear hx hbz c1 c2 ca cb
            go_wp2
            all_goals go_roundw
            all_goals first | exact ⟨n + 1, rfl, by omega, by omega, h1⟩ | (simp [intOf]; omega)
          · subst i
            have c1 := fun v => calls_up (match_n (wr.up v) _ 11 5 _ (ex_sl (hxu v).k (hxu v).l 0 5 0 11 (by omega) (by omega) (by decide) rfl) tB tB_w n)
            have c2 := fun v => calls_up (match_n (wr.up v) _ 6 6 _ (ex_sl (hxu v).k (hxu v).l 5 6 30 6 (by omega) (by omega) (by decide) rfl) tA tA_w n)
            simp only [tA, tB] at c1 c2
            clear hxu
            go_wp2
            skip
            refine wp_region_up_lit (by kernel_rfl) (by kernel_rfl) ?_
            repeat (go_big_quiet_step ((first | (with_reducible exact c1 _) | (with_reducible exact c2 _))))
            refine wpQuiet_nil ?_
            intro wz hwz
            have hbz := up_ex hwz
            clear hwz
            have h1 := hx.more hbz
            clear hx hbz c1 c2 ca cb
            go_wp2
            all_goals go_roundw
            all_goals first | exact ⟨n + 1, rfl, by omega, by omega, h1⟩ | (simp [intOf]; omega)
          · subst i
            have c1 := fun v => calls_up (match_n (wr.up v) _ 11 6 _ (ex_sl (hxu v).k (hxu v).l 0 6 0 11 (by omega) (by omega) (by decide) rfl) tB tB_w n)
            have c2 := fun v => calls_up (match_n (wr.up v) _ 5 5 _ (ex_sl (hxu v).k (hxu v).l 6 5 36 5 (by omega) (by omega) (by decide) rfl) tA tA_w n)
            simp only [tA, tB] at c1 c2
            clear hxu
            go_wp2
            skip
            refine wp_region_up_lit (by kernel_rfl) (by kernel_rfl) ?_
            repeat (go_big_quiet_step ((first | (with_reducible exact c1 _) | (with_reducible exact c2 _))))
            refine wpQuiet_nil ?_
            intro wz hwz
            have hbz := up_ex hwz
            clear hwz
            have h1 := hx.more hbz
            clear hx hbz c1 c2 ca cb
            go_wp2
            all_goals go_roundw
            all_goals first | exact ⟨n + 1, rfl, by omega, by omega, h1⟩ | (simp [intOf]; omega)
          · subst i
            have c1 := fun v => calls_up (match_n (wr.up v) _ 11 7 _ (ex_sl (hxu v).k (hxu v).l 0 7 0 11 (by omega) (by omega) (by decide) rfl) tB tB_w n)
            have c2 := fun v => calls_up (match_n (wr.up v) _ 4 4 _ (ex_sl (hxu v).k (hxu v).l 7 4 42 4 (by omega) (by omega) (by decide) rfl) tA tA_w n)
            simp only [tA, tB] at c1 c2
            clear hxu
            go_wp2
            skip
            refine wp_region_up_lit (by kernel_rfl) (by kernel_rfl) ?_
            repeat (go_big_quiet_step ((first | (with_reducible exact c1 _) | (with_reducible exact c2 _))))
            refine wpQuiet_nil ?_
            intro wz hwz
            have hbz := up_ex hwz
            clear hwz
            have h1 := hx.more hbz
            clear hx hbz c1 c2 ca cb
            go_wp2
            all_goals go_roundw
            all_goals first | exact ⟨n + 1, rfl, by omega, by omega, h1⟩ | (simp [intOf]; omega)
          · subst i
            have c1 := fun v => calls_up (match_n (wr.up v) _ 11 8 _ (ex_sl (hxu v).k (hxu v).l 0 8 0 11 (by omega) (by omega) (by decide) rfl) tB tB_w n)
            have c2 := fun v => calls_up (match_n (wr.up v) _ 3 3 _ (ex_sl (hxu v).k (hxu v).l 8 3 48 3 (by omega) (by omega) (by decide) rfl) tA tA_w n)
            simp only [tA, tB] at c1 c2
            clear hxu
            go_wp2
            skip
            refine wp_region_up_lit (by kernel_rfl) (by kernel_rfl) ?_
            repeat (go_big_quiet_step ((first | (with_reducible exact c1 _) | (with_reducible exact c2 _))))
            refine wpQuiet_nil ?_
            intro wz hwz
            have hbz := up_ex hwz
            clear hwz
            have h1 := hx.more hbz
            clear hx hbz c1 c2 ca cb
            go_wp2
            all_goals go_roundw
            all_goals first | exact ⟨n + 1, rfl, by omega, by omega, h1⟩ | (simp [intOf]; omega)
          · subst i
            have c1 := fun v => calls_up (match_n (wr.up v) _ 11 9 _ (ex_sl (hxu v).k (hxu v).l 0 9 0 11 (by omega) (by omega) (by decide) rfl) tB tB_w n)
            have c2 := fun v => calls_up (match_n (wr.up v) _ 2 2 _ (ex_sl (hxu v).k (hxu v).l 9 2 54 2 (by omega) (by omega) (by decide) rfl) tA tA_w n)
            simp only [tA, tB] at c1 c2
            clear hxu
            go_wp2
            skip
            refine wp_region_up_lit (by kernel_rfl) (by kernel_rfl) ?_
            repeat (go_big_quiet_step ((first | (with_reducible exact c1 _) | (with_reducible exact c2 _))))
            refine wpQuiet_nil ?_
            intro wz hwz
            have hbz := up_ex hwz
            clear hwz
            have h1 := hx.more hbz
            clear hx hbz c1 c2 ca cb
            go_wp2
            all_goals go_roundw
            all_goals first | exact ⟨n + 1, rfl, by omega, by omega, h1⟩ | (simp [intOf]; omega)
          · subst i
            have c1 := fun v => calls_up (match_n (wr.up v) _ 11 10 _ (ex_sl (hxu v).k (hxu v).l 0 10 0 11 (by omega) (by omega) (by decide) rfl) tB tB_w n)
            have c2 := fun v => calls_up (match_n (wr.up v) _ 1 1 _ (ex_sl (hxu v).k (hxu v).l 10 1 60 1 (by omega) (by omega) (by decide) rfl) tA tA_w n)
            simp only [tA, tB] at c1 c2
            clear hxu
            go_wp2
            skip
            refine wp_region_up_lit (by kernel_rfl) (by kernel_rfl) ?_
            repeat (go_big_quiet_step ((first | (with_reducible exact c1 _) | (with_reducible exact c2 _))))
            refine wpQuiet_nil ?_
            intro wz hwz
            have hbz := up_ex hwz
            clear hwz
            have h1 := hx.more hbz
            clear hx hbz c1 c2 ca cb
            go_wp2
            all_goals go_roundw
            all_goals first | exact ⟨n + 1, rfl, by omega, by omega, h1⟩ | (simp [intOf]; omega)
          · subst i
            have c1 := fun v => calls_up (match_n (wr.up v) _ 11 11 _ (ex_sl (hxu v).k (hxu v).l 0 11 0 11 (by omega) (by omega) (by decide) rfl) tB tB_w n)
            have c2 := fun v => calls_up (match_n (wr.up v) (some ⟨w.heap.size + 4, 0, none⟩) 0 0 [] ⟨⟨Nat.le_refl _, Nat.zero_le _, Or.inl rfl⟩, rfl⟩ tA tA_w n)
            simp only [tA, tB] at c1 c2
            clear hxu
            go_wp2
            trace_state
            refine wp_region_up_lit (by kernel_rfl) (by kernel_rfl) ?_
            repeat (go_big_quiet_step ((first | (with_reducible exact c1 _) | (with_reducible exact c2 _))))
            refine wpQuiet_nil ?_
            intro wz hwz
            have hbz := up_ex hwz
            clear hwz
            have h1 := hx.more hbz
            clear hx hbz c1 c2 ca cb
            go_wp2
            all_goals go_roundw
            all_goals first | exact ⟨n + 1, rfl, by omega, by omega, h1⟩ | (simp [intOf]; omega)
        · have hn4 : n = 4 := by omega
          subst hn4
          go_wp2
          all_goals go_roundw
          all_goals first | exact ⟨i + 1, by go_num, by omega, hx⟩ | (simp [intOf]; omega)
    · have hi12 : i = 12 := by omega
      subst hi12
      have ca := vcell hx.a
      have hB0 := hx.bel
      go_wp2_with fail
      refine (keep_np _ _).mono ?_
      rintro e_ w1 ⟨rfl, hb⟩
      have x1 := hx.more (below_then (below_alloc (Below.refl _ _) _) hb)
      clear hx hb ca
      have ca := vcell x1.a
      go_wp2_with fail
      refine (tell_np tA true _).mono ?_
      rintro e_ w2 ⟨rfl, hb⟩
      have x2 := x1.more hb
      clear x1 hb ca
      have ca := vcell x2.a
      go_wp2_with fail
      refine (fails_np tA _).mono ?_
      rintro e_ w3 ⟨rfl, hb⟩
      have x3 := x2.more hb
      clear x2 hb ca
      have ca := vcell x3.a
      go_wp2_with fail
      refine (sick_np tA 1 _).mono ?_
      rintro e_ w4 ⟨rfl, hb⟩
      have x4 := x3.more hb
      clear x3 hb ca
      go_wp2_with fail
      refine (awake_s _).mono ?_
      rintro e_ w5 ⟨rfl, hb⟩
      have x5 := x4.more hb
      clear x4 hb
      go_wp2
      go_returns
      exact ⟨rfl, x5.bel⟩
end Go.Proofs.Ytccehechhdndmaa
