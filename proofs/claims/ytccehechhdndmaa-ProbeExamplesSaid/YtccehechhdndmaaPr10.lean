/- Lemmas for ProbeMatches. Printed by gen/probe10.py. -/
import Derived.Test.YtccehechhdndmaaBase
import Derived.Test.YtccehechhdndmaaSep
import Derived.Test.YtccehechhdndmaaSepB
import Derived.Test.YtccehechhdndmaaOpen
import Derived.Test.YtccehechhdndmaaProg
import Derived.Lib.Hide
import Derived.Deep.Cut
import Derived.Deep.CutRange
import Derived.Deep.RegionWith
import Derived.Test.YtccehechhdndmaaWWords
import Derived.Test.YtccehechhdndmaaPr0
import Derived.Test.YtccehechhdndmaaPr1
import Derived.Test.YtccehechhdndmaaPr2
import Derived.Test.YtccehechhdndmaaPr3
import Derived.Test.YtccehechhdndmaaPr4
import Derived.Test.YtccehechhdndmaaPr5
import Derived.Test.YtccehechhdndmaaPr7
import Derived.Test.YtccehechhdndmaaPr8
import Derived.Test.YtccehechhdndmaaPr9
namespace Go.Proofs.Ytccehechhdndmaa
open Go.RowKit Go.Proofs.YtccehechhdndmaaW.PrintWords
set_option linter.unusedSimpArgs false
set_option linter.unusedVariables false

theorem rowT_at {w0 w : World} {L : List HP} {v : Value} {xs : List Tok} (h : St w0 w (rowT v xs :: L)) : kT.R 32 w 0 (fun _ => True) v xs := by obtain ⟨S, hR, -⟩ := h.hd; exact hR
theorem rowT_one {w0 w : World} {L : List HP} (h : St w0 w L) (t : Tok) : St w0 (w.alloc (.cells #[.int .i64 t.a, .int .i64 t.b, .int .i64 t.c] 32)) (rowT (.slice (some ⟨w.heap.size, 0, none⟩) 1 1) [t] :: L) := by
  have hB : Below w.heap.size w (w.alloc (.cells #[.int .i64 t.a, .int .i64 t.b, .int .i64 t.c] 32)) := below_alloc (Below.refl _ _) _
  refine h.new hB (rowT_loc _ _) (S := fun k => some w.heap.size = some k) ⟨⟨fun _ _ => trivial, [.int .i64 t.a, .int .i64 t.b, .int .i64 t.c], ?_, ?_⟩, rfl⟩ (fun i hi => by injection hi with hi; omega)
  · exact ⟨rfl, Or.inr ⟨w.heap.size, 1, _, rfl, by omega, vnew, Nat.le_refl _, by decide, rfl, rfl⟩⟩
  · have q := Reps.snoc (Reps.none (kT.M (w.alloc (.cells #[.int .i64 t.a, .int .i64 t.b, .int .i64 t.c] 32)) 0 (fun k => True ∧ some k ≠ some w.heap.size)) kT.sz) (kT_mkM _ _ _ t) rfl
    exact q
theorem sl_of_row {w w' : World} {base : Nat} {ok : Nat → Prop} {KA A : Option Addr} {Kc n c : Nat} {M : List E32} (hS : SL37 w KA Kc M) (hR : kT.R 32 w' base ok (.slice A n c) (M.map tk)) : SL37 w' A c M := by
  rcases rowT_get hR with ⟨e, e2⟩ | ⟨b, c', e, hc, hm, -, hb, -, hcells⟩
  · have hM : M = [] := by simpa using e
    injection e2 with e3 e4 e5
    subst hM; subst e5
    exact ⟨Nat.le_refl _, Nat.zero_le _, Or.inl rfl⟩
  · injection e with e1 e2 e3
    subst e3
    refine ⟨by simpa using hc, hm, ?_⟩
    rcases hS.2.2 with h0 | ⟨b0, off, -, -, hw⟩
    · exact Or.inl h0
    · refine Or.inr ⟨b, 0, e1, hb, fun k hk => ?_⟩
      obtain ⟨-, g0, -, g1, -, g2⟩ := hw k hk
      have q := hcells k (by simpa using hk)
      rw [rd_get M k hk] at g0 g1 g2 ⊢
      simp only [List.getElem_map, tk] at q
      exact ⟨by simpa using q.1, g0, by simpa using q.2.1, g1, by simpa using q.2.2, g2⟩
theorem keep_r {w0 w w1 : World} {L : List HP} {p n : Nat} {f : Tok → Nat} {KA A : Option Addr} {Kc m c : Nat} {M : List E32} (h : St w0 w (hz p n f :: rowT (.slice A m c) (M.map tk) :: L)) (hS : SL37 w1 KA Kc M) (hm : M.length = m) :
    Calls Try.prog 24 #[.pointer (some ⟨p, 0, none⟩), .slice A m c] w fun e w' => e = .returned (.tuple #[]) ∧ St w0 w' (hz p n (keepF f (M.map tk)) :: rowT (.slice A m c) (M.map tk) :: L) := by
  subst hm
  have hR := rowT_at (h.pick 1)
  have hl := sl_of_row hS hR
  obtain ⟨S, ⟨b, z, rfl⟩, hh⟩ := h.one
  refine (keep_c p b n f A c M w z hl (fun a ha hne e => ?_)).mono ?_
  · rcases rowT_get hR with ⟨e3, -⟩ | ⟨b2, c', e3, -, -, -, -, ⟨cur, hcur⟩, -⟩
    · exact hne (by simpa using e3)
    · injection e3 with e4 e5 e6
      rw [ha] at e4; cases e4
      obtain ⟨-, -, D, ⟨es, clock, hb, -⟩, -⟩ := z
      rw [← e] at hb
      rw [hcur] at hb; cases hb
  · rintro e w' ⟨rfl, z1, c1⟩
    exact ⟨rfl, hh (c1.mono (fun i _ hi => Or.inr hi)) (hz_loc _ _ _) ⟨b, z1, rfl⟩ (fun k _ hk => hk)⟩
/-- A row of tokens as a bare block. -/
theorem rowT_blk {w0 w : World} {L : List HP} {A : Option Addr} {n c : Nat} {xs : List Tok} (h : St w0 w (rowT (.slice A n c) xs :: L)) (hn : 0 < n) : ∃ b cur, A = some ⟨b, 0, none⟩ ∧ n * 3 ≤ cur.size ∧ St w0 w (Go.Proofs.Ytccehechhdndmaa.blk b cur 32 :: L) := by
  have hR := rowT_at h
  obtain ⟨inner, ho⟩ := Kd.R_own hR
  rcases ho.2 with ⟨e2, e3⟩ | ⟨b, cap, cur, e2, hb, hh, r1, r2, r3, r4⟩
  · injection e2 with e4 e5 e6; omega
  · obtain ⟨hx, -, -⟩ := Kd.R_reads' hR
    injection e2 with e4 e5 e6
    obtain ⟨S, ⟨-, rfl⟩, k⟩ := h.one
    refine ⟨b, cur, e4, by rw [r3, show kT.sz = 3 from rfl]; omega, k (Chg.refl _ _) (blk_loc _ _ _) ⟨hh, rfl⟩ (fun i _ hi => ?_)⟩
    rw [e4, hi]; rfl
theorem rowT_new {w0 w w' : World} {L : List HP} {v : Value} {xs : List Tok} (h : St w0 w L) (k : Below w.heap.size w w') (r : kT.R 32 w' w.heap.size (fun _ => True) v xs) : St w0 w' (rowT v xs :: L) :=
  h.new k (rowT_loc v xs) ⟨Kd.R_lower r (Nat.zero_le _), rfl⟩ (fun i hi => ((Kd.R_bound r).1 i hi).2.1)
end Go.Proofs.Ytccehechhdndmaa
