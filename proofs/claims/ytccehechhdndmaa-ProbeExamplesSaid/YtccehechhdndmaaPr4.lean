/- probe.Health's contracts over objects in memory, and the awake of law16. Printed by gen/probe4.py. -/
import Derived.Test.YtccehechhdndmaaBase
import Derived.Test.YtccehechhdndmaaSep
import Derived.Test.YtccehechhdndmaaSepB
import Derived.Test.YtccehechhdndmaaOpen
import Derived.Test.YtccehechhdndmaaProg
import Derived.Lib.Hide
import Derived.Test.YtccehechhdndmaaPr0
import Derived.Test.YtccehechhdndmaaPr1
import Derived.Test.YtccehechhdndmaaPr2
import Derived.Test.YtccehechhdndmaaPr3
namespace Go.Proofs.Ytccehechhdndmaa
open Go.RowKit
set_option linter.unusedSimpArgs false
set_option linter.unusedVariables false

theorem HZ.more {w : World} {p b n : Nat} {f g : Tok → Nat} (h : HZ w p b n f) (e : f = g) : HZ w p b (n + 1) g := by
  subst e
  obtain ⟨h0, h1, D, h2, h3, h4⟩ := h
  exact ⟨h0, h1, D, h2.mono (Nat.le_succ _), h3, fun t => Nat.le_succ_of_le (h4 t)⟩
theorem pnew_s {w0 w : World} {L : List HP} (h : St w0 w L) : Calls Try.prog 21 #[] w fun e w' => ∃ p, e = .returned (.pointer (some ⟨p, 0, none⟩)) ∧ St w0 w' (hz p 0 (fun _ => 0) :: L) := by
  refine (pnew_c w).mono ?_
  rintro e w' ⟨p, b, rfl, hp, hb, hz, hB⟩
  exact ⟨p, rfl, h.new hB (hz_loc _ _ _) ⟨b, hz, rfl⟩ (fun i hi => by rcases hi with rfl | rfl <;> assumption)⟩
theorem hz_lt {w0 w : World} {L : List HP} {p n : Nat} {f : Tok → Nat} (h : St w0 w (hz p n f :: L)) : ∃ b, HZ w p b n f := by obtain ⟨S, b, z, -⟩ := h.hd; exact ⟨b, z⟩
theorem tell_s {w0 w : World} {L : List HP} {p n : Nat} {f : Tok → Nat} (t : Tok) (ok : Bool) (h : St w0 w (hz p n f :: L)) (ht : tokW t) (hn : n < 1099511627776) :
    Calls Try.prog 27 #[.pointer (some ⟨p, 0, none⟩), tokV t, .bool ok] w fun e w' => e = .returned (.int .i64 (tokE t)) ∧ St w0 w' (hz p (n + 1) (tellF f t ok) :: L) := by
  obtain ⟨S, ⟨b, z, rfl⟩, hh⟩ := h.one
  cases hv : tokOk t with
  | false =>
    refine (tell_no (some ⟨p, 0, none⟩) t ok w hv (by simp)).mono ?_
    rintro e w' ⟨rfl, hB⟩
    have hE : tokE t = 3 := by unfold tokE; rw [hv]; rfl
    have hF : f = tellF f t ok := by funext x; unfold tellF; rw [hv]; rfl
    have z1 : HZ w' p b n f := z.keep (fun i hi => hB.block i (by rcases hi with rfl | rfl; exact vlt z.2.1; exact z.2.2.lt))
    exact ⟨by rw [hE], hh (Chg.of_below hB) (hz_loc _ _ _) ⟨b, z1.more hF, rfl⟩ (fun k _ hk => hk)⟩
  | true =>
    have hE : tokE t = 0 := by unfold tokE; rw [hv]; rfl
    cases ok with
    | true =>
      refine (tell_yes p b n f t w z ht hv).mono ?_
      rintro e w' ⟨rfl, z1, c⟩
      have hF : (fun x => if x = t then 0 else f x) = tellF f t true := by funext x; unfold tellF; rw [hv]; simp
      exact ⟨by rw [hE], hh c (hz_loc _ _ _) ⟨b, z1.more hF, rfl⟩ (fun k _ hk => hk)⟩
    | false =>
      refine (tell_fail p b n f t w z ht hv hn).mono ?_
      rintro e w' ⟨rfl, z1, c⟩
      have hF : (fun x => if x = t then f t + 1 else f x) = tellF f t false := by funext x; unfold tellF; rw [hv]; simp
      exact ⟨by rw [hE], hh c (hz_loc _ _ _) ⟨b, hF ▸ z1, rfl⟩ (fun k _ hk => hk)⟩
theorem fails_s {w0 w : World} {L : List HP} {p n : Nat} {f : Tok → Nat} (t : Tok) (h : St w0 w (hz p n f :: L)) (ht : tokW t) :
    Calls Try.prog 29 #[.pointer (some ⟨p, 0, none⟩), tokV t] w fun e w' => e = .returned (.int .i64 (f t)) ∧ St w0 w' (hz p n f :: L) := by
  obtain ⟨b, z⟩ := hz_lt h
  refine (fails_c p b n f t w z ht).mono ?_
  rintro e w' ⟨rfl, hB⟩
  exact ⟨rfl, h.more hB⟩
theorem sick_s {w0 w : World} {L : List HP} {p n : Nat} {f : Tok → Nat} (t : Tok) (k : Int) (h : St w0 w (hz p n f :: L)) (ht : tokW t) :
    Calls Try.prog 31 #[.pointer (some ⟨p, 0, none⟩), tokV t, .int .i64 k] w fun e w' => e = .returned (.bool (sickB (f t) k)) ∧ St w0 w' (hz p n f :: L) := by
  obtain ⟨b, z⟩ := hz_lt h
  refine (sick_c p b n f t k w z ht).mono ?_
  rintro e w' ⟨rfl, hB⟩
  exact ⟨rfl, h.more hB⟩
theorem keep_s {w0 w : World} {L : List HP} {p n : Nat} {f : Tok → Nat} (A : Option Addr) (c : Nat) (l : List E32) (h : St w0 w (hz p n f :: L)) (hl : SL37 w A c l) (hA : ∀ a, A = some a → l ≠ [] → a.block < w0.heap.size) :
    Calls Try.prog 24 #[.pointer (some ⟨p, 0, none⟩), .slice A l.length c] w fun e w' => e = .returned (.tuple #[]) ∧ St w0 w' (hz p n (keepF f (l.map tk)) :: L) := by
  have h' := h
  obtain ⟨⟨S, -, ⟨b, z, rfl⟩, d, -⟩, -⟩ := h
  obtain ⟨S, ⟨b', z', rfl⟩, hh⟩ := h'.one
  have hb : b = b' := by
    have e := z.2.1.symm.trans z'.2.1
    simp at e; exact e
  subst hb
  refine (keep_c p b n f A c l w z hl (fun a ha hne e => by have := (d b (Or.inr rfl)).1; have := hA a ha hne; omega)).mono ?_
  rintro e w' ⟨rfl, z1, c1⟩
  exact ⟨rfl, hh (c1.mono (fun i _ hi => Or.inr hi)) (hz_loc _ _ _) ⟨b, z1, rfl⟩ (fun k _ hk => hk)⟩
theorem keep_o {w0 w : World} {L : List HP} {p n : Nat} {f : Tok → Nat} {a : Nat} {cs : Array Value} {T : TypeId} (off c : Nat) (l : List E32) (h : St w0 w (hz p n f :: Go.Proofs.Ytccehechhdndmaa.blk a cs T :: L)) (hl : SL37 w (some ⟨a, off, none⟩) c l) :
    Calls Try.prog 24 #[.pointer (some ⟨p, 0, none⟩), .slice (some ⟨a, off, none⟩) l.length c] w fun e w' => e = .returned (.tuple #[]) ∧ St w0 w' (hz p n (keepF f (l.map tk)) :: Go.Proofs.Ytccehechhdndmaa.blk a cs T :: L) := by
  have h' := h.pick 1
  have hb0 := h'.at0
  obtain ⟨S, ⟨b, z, rfl⟩, hh⟩ := h.one
  have hab : a ≠ b := by
    rintro rfl
    obtain ⟨-, -, D, ⟨es, clock, hb, -⟩, -⟩ := z
    rw [hb0] at hb; cases hb
  refine (keep_c p b n f (some ⟨a, off, none⟩) c l w z hl (fun x hx _ e => by cases hx; exact hab e)).mono ?_
  rintro e w' ⟨rfl, z1, c1⟩
  exact ⟨rfl, hh (c1.mono (fun i _ hi => Or.inr hi)) (hz_loc _ _ _) ⟨b, z1, rfl⟩ (fun k _ hk => hk)⟩
theorem keep_nil {w0 w : World} {L : List HP} {p n : Nat} {f : Tok → Nat} (h : St w0 w (hz p n f :: L)) :
    Calls Try.prog 24 #[.pointer (some ⟨p, 0, none⟩), .slice none 0 0] w fun e w' => e = .returned (.tuple #[]) ∧ St w0 w' (hz p n (fun _ => 0) :: L) := by
  refine (keep_s none 0 [] h ⟨Nat.le_refl _, Nat.zero_le _, Or.inl rfl⟩ (fun a ha => by cases ha)).mono ?_
  rintro e w' ⟨rfl, z⟩
  have e : keepF f (([] : List E32).map tk) = fun _ => 0 := by funext x; simp [keepF]
  rw [e] at z
  exact ⟨rfl, z⟩
/-! ### awake -/
def tA : Tok := ⟨7, 0, 1⟩
def tB : Tok := ⟨8, 0, 2⟩
def tC : Tok := ⟨7, 0, 0⟩
theorem tA_w : tokW tA := ⟨by unfold wI; decide, by unfold wI; decide, by unfold wI; decide⟩
theorem tB_w : tokW tB := ⟨by unfold wI; decide, by unfold wI; decide, by unfold wI; decide⟩
theorem tC_w : tokW tC := ⟨by unfold wI; decide, by unfold wI; decide, by unfold wI; decide⟩
def aw0 : Tok → Nat := fun _ => 0
def aw1 : Tok → Nat := tellF aw0 tA false
def aw2 : Tok → Nat := tellF aw1 tA false
def aw3 : Tok → Nat := tellF aw2 tA true
def aw4 : Tok → Nat := tellF aw3 tA false
def aw5 : Tok → Nat := tellF aw4 tB false
def aw6 : Tok → Nat := keepF aw5 [tB]
def aw7 : Tok → Nat := tellF aw6 tC true
set_option maxRecDepth 100000 in
set_option maxHeartbeats 4000000 in
theorem awake_s (w : World) : Calls Try.prog 33 #[] w fun e w' => e = .returned (.bool true) ∧ Below w.heap.size w w' := by
  have a0 : St w (w.alloc (.cells #[.int .i64 7, .int .i64 0, .int .i64 1] 32)) [Go.Proofs.Ytccehechhdndmaa.blk w.heap.size #[.int .i64 7, .int .i64 0, .int .i64 1] 32] := (St.start w).alloc _ _
  have a1 : St w ((w.alloc (.cells #[.int .i64 7, .int .i64 0, .int .i64 1] 32)).alloc (.cells #[.int .i64 8, .int .i64 0, .int .i64 2] 32)) [Go.Proofs.Ytccehechhdndmaa.blk (w.heap.size + 1) #[.int .i64 8, .int .i64 0, .int .i64 2] 32, Go.Proofs.Ytccehechhdndmaa.blk w.heap.size #[.int .i64 7, .int .i64 0, .int .i64 1] 32] := by have q := a0.alloc #[.int .i64 8, .int .i64 0, .int .i64 2] 32; simpa using q
  clear a0
  go_enter Try.func33, Try.ntmps33
  go_wp2_with fail
  refine (pnew_s a1).mono ?_
  rintro e_ w0 ⟨p, rfl, h0⟩
  clear a1
  have cA := (h0.pick 2).cells
  have cB := (h0.pick 1).cells
  go_wp2_with fail
  refine (tell_s tA false h0 tA_w (by decide)).mono ?_
  rintro e_ w1 ⟨rfl, h1⟩
  rw [show tokE tA = 0 by decide]
  have h1 : St w w1 [hz p 1 aw1, Go.Proofs.Ytccehechhdndmaa.blk (w.heap.size + 1) #[.int .i64 8, .int .i64 0, .int .i64 2] 32, Go.Proofs.Ytccehechhdndmaa.blk w.heap.size #[.int .i64 7, .int .i64 0, .int .i64 1] 32] := h1
  clear cA cB h0
  have cA := (h1.pick 2).cells
  have cB := (h1.pick 1).cells
  go_wp2_with fail
  refine (tell_s tA false h1 tA_w (by decide)).mono ?_
  rintro e_ w2 ⟨rfl, h2⟩
  rw [show tokE tA = 0 by decide]
  have h2 : St w w2 [hz p 2 aw2, Go.Proofs.Ytccehechhdndmaa.blk (w.heap.size + 1) #[.int .i64 8, .int .i64 0, .int .i64 2] 32, Go.Proofs.Ytccehechhdndmaa.blk w.heap.size #[.int .i64 7, .int .i64 0, .int .i64 1] 32] := h2
  clear cA cB h1
  have cA := (h2.pick 2).cells
  have cB := (h2.pick 1).cells
  go_wp2_with fail
  refine (fails_s tA h2 tA_w).mono ?_
  rintro e_ w3 ⟨rfl, h3⟩
  rw [show ((aw2 tA : Nat) : Int) = 2 by decide]
  clear cA cB h2
  have cA := (h3.pick 2).cells
  have cB := (h3.pick 1).cells
  go_wp2_with fail
  refine (sick_s tA 2 h3 tA_w).mono ?_
  rintro e_ w4 ⟨rfl, h4⟩
  rw [show sickB (aw2 tA) 2 = true by decide]
  clear cA cB h3
  have cA := (h4.pick 2).cells
  have cB := (h4.pick 1).cells
  go_wp2_with fail
  refine (sick_s tA 3 h4 tA_w).mono ?_
  rintro e_ w5 ⟨rfl, h5⟩
  rw [show sickB (aw2 tA) 3 = false by decide]
  clear cA cB h4
  have cA := (h5.pick 2).cells
  have cB := (h5.pick 1).cells
  go_wp2_with fail
  refine (sick_s tA 0 h5 tA_w).mono ?_
  rintro e_ w6 ⟨rfl, h6⟩
  rw [show sickB (aw2 tA) 0 = false by decide]
  clear cA cB h5
  have cA := (h6.pick 2).cells
  have cB := (h6.pick 1).cells
  go_wp2_with fail
  refine (tell_s tA true h6 tA_w (by decide)).mono ?_
  rintro e_ w7 ⟨rfl, h7⟩
  rw [show tokE tA = 0 by decide]
  have h7 : St w w7 [hz p 3 aw3, Go.Proofs.Ytccehechhdndmaa.blk (w.heap.size + 1) #[.int .i64 8, .int .i64 0, .int .i64 2] 32, Go.Proofs.Ytccehechhdndmaa.blk w.heap.size #[.int .i64 7, .int .i64 0, .int .i64 1] 32] := h7
  clear cA cB h6
  have cA := (h7.pick 2).cells
  have cB := (h7.pick 1).cells
  go_wp2_with fail
  refine (fails_s tA h7 tA_w).mono ?_
  rintro e_ w8 ⟨rfl, h8⟩
  rw [show ((aw3 tA : Nat) : Int) = 0 by decide]
  clear cA cB h7
  have cA := (h8.pick 2).cells
  have cB := (h8.pick 1).cells
  go_wp2_with fail
  refine (tell_s tA false h8 tA_w (by decide)).mono ?_
  rintro e_ w9 ⟨rfl, h9⟩
  rw [show tokE tA = 0 by decide]
  have h9 : St w w9 [hz p 4 aw4, Go.Proofs.Ytccehechhdndmaa.blk (w.heap.size + 1) #[.int .i64 8, .int .i64 0, .int .i64 2] 32, Go.Proofs.Ytccehechhdndmaa.blk w.heap.size #[.int .i64 7, .int .i64 0, .int .i64 1] 32] := h9
  clear cA cB h8
  have cA := (h9.pick 2).cells
  have cB := (h9.pick 1).cells
  go_wp2_with fail
  refine (tell_s tB false h9 tB_w (by decide)).mono ?_
  rintro e_ w10 ⟨rfl, h10⟩
  rw [show tokE tB = 0 by decide]
  have h10 : St w w10 [hz p 5 aw5, Go.Proofs.Ytccehechhdndmaa.blk (w.heap.size + 1) #[.int .i64 8, .int .i64 0, .int .i64 2] 32, Go.Proofs.Ytccehechhdndmaa.blk w.heap.size #[.int .i64 7, .int .i64 0, .int .i64 1] 32] := h10
  clear cA cB h9
  have cA := (h10.pick 2).cells
  have cB := (h10.pick 1).cells
  go_wp2_with fail
  have hk0 := h10.alloc #[.int .i64 8, .int .i64 0, .int .i64 2] 32
  have hk : St w _ [hz p 5 aw5, Go.Proofs.Ytccehechhdndmaa.blk w10.heap.size #[.int .i64 8, .int .i64 0, .int .i64 2] 32, Go.Proofs.Ytccehechhdndmaa.blk (w.heap.size + 1) #[.int .i64 8, .int .i64 0, .int .i64 2] 32, Go.Proofs.Ytccehechhdndmaa.blk w.heap.size #[.int .i64 7, .int .i64 0, .int .i64 1] 32] := hk0.pick 1
  have hsl : SL37 (w10.alloc (.cells #[.int .i64 8, .int .i64 0, .int .i64 2] 32)) (some ⟨w10.heap.size, 0, none⟩) 1 [⟨8, 0, 2⟩] := by
    have hq := vcell (vnew (W := w10) (o := .cells #[.int .i64 8, .int .i64 0, .int .i64 2] 32))
    exact ⟨Nat.le_refl _, by decide, Or.inr ⟨_, _, rfl, by simp, fun j hj => by obtain rfl : j = 0 := (by simpa using hj); exact ⟨hq 0, by decide, hq 1, by decide, hq 2, by decide⟩⟩⟩
  refine (keep_o 0 1 [⟨8, 0, 2⟩] hk hsl).mono ?_
  rintro e_ w11 ⟨rfl, h11⟩
  clear hk hk0 hsl
  have h11 : St w w11 [hz p 5 aw6, Go.Proofs.Ytccehechhdndmaa.blk (w.heap.size + 1) #[.int .i64 8, .int .i64 0, .int .i64 2] 32, Go.Proofs.Ytccehechhdndmaa.blk w.heap.size #[.int .i64 7, .int .i64 0, .int .i64 1] 32] := (h11.pick 1).drop
  clear cA cB h10
  have cA := (h11.pick 2).cells
  have cB := (h11.pick 1).cells
  go_wp2_with fail
  refine (fails_s tA h11 tA_w).mono ?_
  rintro e_ w12 ⟨rfl, h12⟩
  rw [show ((aw6 tA : Nat) : Int) = 0 by decide]
  clear cA cB h11
  have cA := (h12.pick 2).cells
  have cB := (h12.pick 1).cells
  go_wp2_with fail
  refine (fails_s tB h12 tB_w).mono ?_
  rintro e_ w13 ⟨rfl, h13⟩
  rw [show ((aw6 tB : Nat) : Int) = 1 by decide]
  clear cA cB h12
  have cA := (h13.pick 2).cells
  have cB := (h13.pick 1).cells
  go_wp2_with fail
  refine (tell_s tC true h13 tC_w (by decide)).mono ?_
  rintro e_ w14 ⟨rfl, h14⟩
  rw [show tokE tC = 3 by decide]
  have h14 : St w w14 [hz p 6 aw7, Go.Proofs.Ytccehechhdndmaa.blk (w.heap.size + 1) #[.int .i64 8, .int .i64 0, .int .i64 2] 32, Go.Proofs.Ytccehechhdndmaa.blk w.heap.size #[.int .i64 7, .int .i64 0, .int .i64 1] 32] := h14
  clear cA cB h13
  have cA := (h14.pick 2).cells
  have cB := (h14.pick 1).cells
  go_wp2
  go_returns
  exact ⟨rfl, h14.bel⟩
end Go.Proofs.Ytccehechhdndmaa
