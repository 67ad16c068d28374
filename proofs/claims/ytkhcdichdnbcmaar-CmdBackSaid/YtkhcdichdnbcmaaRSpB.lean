/- The contracts of ports.Check and of the closures of spec.Check. -/
import Derived.Test.YtkhcdichdnbcmaaRBase
import Derived.Test.YtkhcdichdnbcmaaRSp0
import Derived.Test.YtkhcdichdnbcmaaRSpA
import Derived.Test.YtkhcdichdnbcmaaRResC
import Derived.Test.YtkhcdichdnbcmaaRDelC
import Derived.Test.YtkhcdichdnbcmaaRProg
import Derived.Lib.Hide
import Derived.Test.YtkhcdichdnbcmaaRWWords
namespace Go.Proofs.YtkhcdichdnbcmaaR
open Go.RowKit Go.Proofs.YtkhcdichdnbcmaaRW.PrintWords Go.Proofs.YtkhcdichdnbcmaaR.Sp
set_option linter.unusedSimpArgs false
set_option linter.unusedVariables false

/-- A list of numbers that lies in memory. -/
def RowI (W : World) (A : Option Addr) (l : List Int) : Prop := l = [] ∨ ∃ b off, A = some ⟨b, off, none⟩ ∧ b < W.heap.size ∧ ∀ k, k < l.length → W.cell? ⟨b, off + k, none⟩ = some (.int .i64 (l.getD k 0))
theorem RowI.below {W W1 : World} {A : Option Addr} {l : List Int} (h : RowI W A l) (hb : Below W.heap.size W W1) : RowI W1 A l := by
  rcases h with h | ⟨b, off, h1, h2, h3⟩
  · exact .inl h
  · exact .inr ⟨b, off, h1, Nat.lt_of_lt_of_le h2 hb.size, fun k hk => (hb.cell h2).trans (h3 k hk)⟩
def t0 : TS := ⟨false, 0, 0, 0, 0, 0⟩
def tsAt (l : List TS) (k : Nat) : TS := l.getD k t0
/-- A list of tasks that lies in memory. -/
def RowT (W : World) (A : Option Addr) (l : List TS) : Prop := l = [] ∨ ∃ b off, A = some ⟨b, off, none⟩ ∧ b < W.heap.size ∧ ∀ k, k < l.length →
  W.cell? ⟨b, off + k * 6, none⟩ = some (.bool (tsAt l k).always) ∧ W.cell? ⟨b, off + k * 6 + 1, none⟩ = some (.int .i64 (tsAt l k).limit) ∧ W.cell? ⟨b, off + k * 6 + 2, none⟩ = some (.int .i64 (tsAt l k).window) ∧
  W.cell? ⟨b, off + k * 6 + 3, none⟩ = some (.int .i64 (tsAt l k).base) ∧ W.cell? ⟨b, off + k * 6 + 4, none⟩ = some (.int .i64 (tsAt l k).most) ∧ W.cell? ⟨b, off + k * 6 + 5, none⟩ = some (.int .i64 (tsAt l k).probes)
theorem RowT.below {W W1 : World} {A : Option Addr} {l : List TS} (h : RowT W A l) (hb : Below W.heap.size W W1) : RowT W1 A l := by
  rcases h with h | ⟨b, off, h1, h2, h3⟩
  · exact .inl h
  · refine .inr ⟨b, off, h1, Nat.lt_of_lt_of_le h2 hb.size, fun k hk => ?_⟩
    obtain ⟨q0, q1, q2, q3, q4, q5⟩ := h3 k hk
    exact ⟨(hb.cell h2).trans q0, (hb.cell h2).trans q1, (hb.cell h2).trans q2, (hb.cell h2).trans q3, (hb.cell h2).trans q4, (hb.cell h2).trans q5⟩

def RestG (l : List Int) (k : Nat) (b : Int) : Prop := portsG 0 l = portsG b (l.drop k)
theorem RestG.zero (l : List Int) : RestG l 0 0 := rfl
theorem RestG.step {l : List Int} {k : Nat} {b : Int} (h : RestG l k b) (hk : k < l.length) : portsG 0 l = if l.getD k 0 < 1 ∨ l.getD k 0 > 65535 then 3 else if l.getD k 0 ≤ b then 13 else portsG (l.getD k 0) (l.drop (k + 1)) := by
  unfold RestG at h
  rw [h, List.drop_eq_getElem_cons hk]
  have : l.getD k 0 = l[k] := by simp [hk]
  rw [this, portsG]
theorem RestG.fin {l : List Int} {k : Nat} {b : Int} (h : RestG l k b) (hk : l.length ≤ k) : portsG 0 l = 0 := by
  unfold RestG at h
  rw [h, List.drop_eq_nil_of_le hk]; rfl
set_option maxHeartbeats 2000000 in
theorem ports_c (A : Option Addr) (n c : Nat) (l : List Int) (w : World) (hn : n = l.length) (hr : RowI w A l) (hm : l.length ≤ 9223372036854775807) :
    Calls Try.prog 83 #[.slice A n c] w fun e w' => e = .returned (.int .i64 (portsE l)) ∧ w' = w := by
  subst hn
  by_cases h8 : 8 < l.length
  · have hE : portsE l = 5 := by unfold portsE; rw [if_pos h8]
    have HE := Lib.hid hE
    have HR := Lib.hid hr
    clear hE hr
    go_enter Try.func83, Try.ntmps83
    go_wp2
    go_returns
    exact ⟨ret_int HE.out.symm, rfl⟩
  · have hE : portsE l = portsG 0 l := by unfold portsE; rw [if_neg h8]
    have HE := Lib.hid hE
    have HR := Lib.hid hr
    clear hE hr
    go_enter Try.func83, Try.ntmps83
    go_wp2
    go_loop [3, 11] (fun v i => ∃ (k : Nat) (b : Int), k ≤ l.length ∧ i = .int .i64 k ∧ v = .int .i64 b ∧ RestG l k b) (fun _ i => l.length - (intOf i).toNat)
    case atStart => exact ⟨0, 0, Nat.zero_le _, rfl, rfl, RestG.zero _⟩
    case round =>
      obtain ⟨k, b, hk, rfl, rfl, hG⟩ := hrel
      by_cases hlt : k < l.length
      · obtain ⟨B, off, rfl, hb, hcells⟩ : ∃ b off, A = some ⟨b, off, none⟩ ∧ b < w.heap.size ∧ _ := HR.out.resolve_left (by rintro rfl; simp at hlt)
        have hc := hcells k hlt
        clear hcells
        have hs := hG.step hlt
        generalize hp : l.getD k 0 = p at *
        have HP := Lib.hid hp
        have HS := Lib.hid hs
        clear hp hs
        by_cases h1 : p < 1
        · have h1b : decide (p < 1) = true := decide_eq_true h1
          go_wp2
          go_returns
          exact ⟨ret_int (by rw [HE.out, HS.out, if_pos (.inl h1)]), rfl⟩
        · have h1b : decide (p < 1) = false := decide_eq_false h1
          by_cases h2 : p > 65535
          · have h2b : decide (65535 < p) = true := decide_eq_true h2
            go_wp2
            go_returns
            exact ⟨ret_int (by rw [HE.out, HS.out, if_pos (.inr h2)]), rfl⟩
          · have h2b : decide (65535 < p) = false := decide_eq_false h2
            by_cases h3 : p ≤ b
            · have h3b : decide (p ≤ b) = true := decide_eq_true h3
              go_wp2
              go_returns
              exact ⟨ret_int (by rw [HE.out, HS.out, if_neg (by omega), if_pos h3]), rfl⟩
            · have h3b : decide (p ≤ b) = false := decide_eq_false h3
              go_wp2
              go_round
              case rel => exact ⟨k + 1, p, by omega, by go_num, rfl, by unfold RestG; rw [HS.out, if_neg (by omega), if_neg h3]⟩
              case measure => simp [intOf]; omega
      · go_wp2
        go_returns
        exact ⟨ret_int (by rw [HE.out, hG.fin (by omega)]), rfl⟩

theorem resE_okR (cpu mem disk : Int) : errI (okR cpu mem disk) = resE cpu mem disk := by
  unfold resE errI
  have : okR cpu mem disk = true ↔ inI cpu 0 1099511627776 = true ∧ inI mem 0 1099511627776 = true ∧ inI disk 0 1099511627776 = true := by
    rw [okR_iff, inI_iff, inI_iff, inI_iff]
  by_cases h : okR cpu mem disk = true
  · rw [if_pos h, if_pos (this.1 h)]
  · rw [if_neg h, if_neg (fun q => h (this.2 q))]
theorem polE_okP (l wd b m : Int) : errP (okP l wd b m) = polE l wd b m := by
  unfold polE errP
  have : okP l wd b m = true ↔ inI l 1 8 = true ∧ inI wd 1 1099511627776 = true ∧ inI m 1 1099511627776 = true ∧ inI b 1 m = true := by
    rw [okP_iff, inI_iff, inI_iff, inI_iff, inI_iff]
    constructor
    · rintro ⟨a, b, c, d, e, f⟩; exact ⟨a, b, ⟨c, d⟩, e, f⟩
    · rintro ⟨a, b, ⟨c, d⟩, e, f⟩; exact ⟨a, b, c, d, e, f⟩
  by_cases h : okP l wd b m = true
  · rw [if_pos h, if_pos (this.1 h)]
  · rw [if_neg h, if_neg (fun q => h (this.2 q))]
section
variable (B : Nat) (id cpu mem disk : Int) (P T : Value) (w : World) (hB : w.heap[B]? = some (.cells #[.int .i64 id, .int .i64 cpu, .int .i64 mem, .int .i64 disk, P, T] 27 (0, 0)))
include hB
set_option maxHeartbeats 400000 in
theorem chk1_c : Calls Try.prog 78 #[.pointer (some ⟨B, 0, none⟩)] w fun e w' => e = .returned (.int .i64 (rangeE id 0 2147483648)) ∧ Below w.heap.size w w' := by
  have hc := vcell hB
  go_enter Try.func78, Try.ntmps78
  go_wp2_with (go_at_call 79; (with_reducible refine (rng_c _ _ _ _).mono ?_); rintro e_ w1 ⟨rfl, rfl⟩)
  go_ret
  exact ⟨rfl, Below.refl _ _⟩
set_option maxHeartbeats 400000 in
theorem chk2_c : Calls Try.prog 80 #[.pointer (some ⟨B, 0, none⟩)] w fun e w' => e = .returned (.int .i64 (resE cpu mem disk)) ∧ Below w.heap.size w w' := by
  have hc := vcell hB
  rw [← resE_okR]
  go_enter Try.func80, Try.ntmps80
  go_wp2_with (go_at_call 81; (with_reducible refine (check_c _ _ _ _).mono ?_); rintro e_ w1 ⟨rfl, hb⟩)
  go_ret
  exact ⟨rfl, hb⟩
end
set_option maxHeartbeats 400000 in
theorem chk3_c (B : Nat) (id cpu mem disk : Int) (A : Option Addr) (n c : Nat) (T : Value) (l : List Int) (w : World) (hB : w.heap[B]? = some (.cells #[.int .i64 id, .int .i64 cpu, .int .i64 mem, .int .i64 disk, .slice A n c, T] 27 (0, 0)))
    (hn : n = l.length) (hr : RowI w A l) (hm : l.length ≤ 9223372036854775807) : Calls Try.prog 82 #[.pointer (some ⟨B, 0, none⟩)] w fun e w' => e = .returned (.int .i64 (portsE l)) ∧ Below w.heap.size w w' := by
  have hc := vcell hB
  have HN := Lib.hid hn
  have HR := Lib.hid hr
  clear hn hr
  go_enter Try.func82, Try.ntmps82
  go_wp2_with (go_at_call 83; (with_reducible refine (ports_c _ _ _ l _ HN.out HR.out hm).mono ?_); rintro e_ w1 ⟨rfl, rfl⟩)
  go_ret
  exact ⟨rfl, Below.refl _ _⟩
set_option maxHeartbeats 400000 in
theorem chk4_c (B : Nat) (id cpu mem disk : Int) (A : Option Addr) (n c : Nat) (P : Value) (w : World) (hB : w.heap[B]? = some (.cells #[.int .i64 id, .int .i64 cpu, .int .i64 mem, .int .i64 disk, P, .slice A n c] 27 (0, 0)))
    (hm : n ≤ 9223372036854775807) : Calls Try.prog 84 #[.pointer (some ⟨B, 0, none⟩)] w fun e w' => e = .returned (.int .i64 (countE n)) ∧ Below w.heap.size w w' := by
  have hc := vcell hB
  unfold countE
  by_cases h0 : n = 0
  · subst h0
    rw [if_pos rfl]
    go_enter Try.func84, Try.ntmps84
    go_wp2
    go_returns
    exact ⟨rfl, Below.refl _ _⟩
  · rw [if_neg h0]
    have h0b : ((n : Int) == 0) = false := by simp; omega
    have h0c : (n == 0) = false := by simp; omega
    by_cases h4 : n > 4
    · rw [if_pos h4]
      go_enter Try.func84, Try.ntmps84
      go_wp2
      all_goals go_returns
      all_goals exact ⟨rfl, Below.refl _ _⟩
    · rw [if_neg h4]
      go_enter Try.func84, Try.ntmps84
      go_wp2
      all_goals go_returns
      all_goals exact ⟨rfl, Below.refl _ _⟩
section
variable (B : Nat) (al : Bool) (l wd b m p : Int) (w : World) (hB : w.heap[B]? = some (.cells #[.bool al, .int .i64 l, .int .i64 wd, .int .i64 b, .int .i64 m, .int .i64 p] 90 (0, 0)))
include hB
set_option maxHeartbeats 400000 in
theorem chk5_c : Calls Try.prog 85 #[.pointer (some ⟨B, 0, none⟩)] w fun e w' => e = .returned (.int .i64 (polE l wd b m)) ∧ Below w.heap.size w w' := by
  have hc := vcell hB
  rw [← polE_okP]
  go_enter Try.func85, Try.ntmps85
  go_wp2_with (go_at_call 86; (with_reducible refine (dcheck_c _ _ _ _ _ _).mono ?_); rintro e_ w1 ⟨rfl, hb⟩)
  go_ret
  exact ⟨rfl, hb⟩
set_option maxHeartbeats 400000 in
theorem chk6_c : Calls Try.prog 87 #[.pointer (some ⟨B, 0, none⟩)] w fun e w' => e = .returned (.int .i64 (rangeE p 0 1000)) ∧ Below w.heap.size w w' := by
  have hc := vcell hB
  go_enter Try.func87, Try.ntmps87
  go_wp2_with (go_at_call 79; (with_reducible refine (rng_c _ _ _ _).mono ?_); rintro e_ w1 ⟨rfl, rfl⟩)
  go_ret
  exact ⟨rfl, Below.refl _ _⟩
end
end Go.Proofs.YtkhcdichdnbcmaaR
