/- The contracts of fuses and nets over the state of a law's memory; EqualInts; append. -/
import Derived.Test.YtecneikblkjgoaaBase
import Derived.Test.YtecneikblkjgoaaSep
import Derived.Test.YtecneikblkjgoaaBeat
import Derived.Test.YtecneikblkjgoaaPBeatGrowsx1
import Derived.Test.YtecneikblkjgoaaProg
import Derived.Lib.Hide
namespace Go.Proofs.Ytecneikblkjgoaa
open Go.RowKit Go.Proofs.YtecneikblkjgoaaW.PrintWords Go.Proofs.YtecneikblkjgoaaW.PrintLast Go.Proofs.YtecneikblkjgoaaW.PrintMore
set_option linter.unusedSimpArgs false
set_option linter.unusedVariables false

def fz (f : Nat) (s l : Int) : HP := fun w S => FZ w f s l ∧ S = fun k => k = f
def rf (f : Nat) (s l : Int) : HP := fun w S => RF w f s l ∧ S = fun k => k = f
def nz (b f : Nat) (xs : List Int) : HP := fun w S => ∃ o, NZ w 0 b f o xs ∧ S = fun k => k = b ∨ o = some k
def nr (b f : Nat) (xs : List Int) : HP := fun w S => ∃ o, NR w 0 b f o xs ∧ S = fun k => k = b ∨ o = some k
def row (v : Value) (xs : List Int) : HP := fun w S => (Kd.int .i64).R 3 w 0 (fun _ => True) v xs ∧ S = fun k => v.ownBlock = some k
theorem fz_loc (f : Nat) (s l : Int) : Loc (fz f s l) where
  keep := fun ⟨h, e⟩ k => ⟨(k f (by rw [e])).trans h, e⟩
  lt := fun ⟨h, e⟩ k => by subst e; subst k; exact h.lt
theorem rf_loc (f : Nat) (s l : Int) : Loc (rf f s l) where
  keep := fun ⟨⟨ar, le, h, r⟩, e⟩ k => ⟨⟨ar, le, (k f (by rw [e])).trans h, r⟩, e⟩
  lt := fun ⟨h, e⟩ k => by subst e; subst k; exact h.lt
theorem R_keep1 {w w' : World} {v : Value} {xs : List Int} (h : (Kd.int .i64).R 3 w 0 (fun _ => True) v xs) (k : ∀ g, v.ownBlock = some g → w'.heap[g]? = w.heap[g]?) : (Kd.int .i64).R 3 w' 0 (fun _ => True) v xs := by
  obtain ⟨_, inner, hi, hr⟩ := h
  exact Kd.R_mono (Kd.R_move (ok := fun g => v.ownBlock = some g) ⟨fun g hg => hg, inner, hi, hr⟩ (fun g hg => k g hg)) (fun _ _ => trivial)
theorem R_lt1 {w : World} {v : Value} {xs : List Int} (h : (Kd.int .i64).R 3 w 0 (fun _ => True) v xs) {g : Nat} (hg : v.ownBlock = some g) : g < w.heap.size := ((Kd.R_bound h).1 g hg).2.2.1
theorem nz_loc (b f : Nat) (xs : List Int) : Loc (nz b f xs) where
  keep := fun ⟨o, ⟨v, h0, h1, h2⟩, e⟩ k => ⟨o, ⟨v, h0, (k b (by rw [e]; exact Or.inl rfl)).trans h1, R_keep1 h2 (fun g hg => k g (by rw [e]; exact Or.inr (h0 ▸ hg)))⟩, e⟩
  lt := fun ⟨o, h, e⟩ k => by subst e; exact Or.elim k (fun q => q ▸ h.lt) (fun q => (h.row q).2.1)
theorem nr_loc (b f : Nat) (xs : List Int) : Loc (nr b f xs) where
  keep := fun ⟨o, ⟨v, h0, h1, h2⟩, e⟩ k => ⟨o, ⟨v, h0, (k b (by rw [e]; exact Or.inl rfl)).trans h1, R_keep1 h2 (fun g hg => k g (by rw [e]; exact Or.inr (h0 ▸ hg)))⟩, e⟩
  lt := fun ⟨o, h, e⟩ k => by subst e; exact Or.elim k (fun q => q ▸ h.lt) (fun q => (h.row q).2.1)
theorem row_loc (v : Value) (xs : List Int) : Loc (row v xs) where
  keep := fun ⟨h, e⟩ k => ⟨R_keep1 h (fun g hg => k g (by rw [e]; exact hg)), e⟩
  lt := fun ⟨h, e⟩ k => by subst e; exact R_lt1 h k
/-- A fuse's state that occurs. -/
def Fin (s l : Int) : Prop := s = 0 ∨ (s = 1 ∧ 0 ≤ l ∧ l ≤ 9223372036854775807) ∨ s = 2
theorem Fin.rl {s l : Int} (h : Fin s l) : ∃ ar le, Rl s l ar le := by
  rcases h with rfl | ⟨rfl, h1, h2⟩ | rfl
  · exact ⟨false, 0, Or.inl ⟨rfl, rfl⟩⟩
  · exact ⟨true, l, Or.inr (Or.inl ⟨rfl, rfl, rfl, h1, h2⟩)⟩
  · exact ⟨true, 0, Or.inr (Or.inr rfl)⟩
theorem Fin.bu {s l : Int} (h : Fin s l) : Fin (buS s l) (buL s l) := by
  unfold buS buL
  rcases h with rfl | ⟨rfl, h1, h2⟩ | rfl
  · rw [if_neg (by omega)]; exact Or.inl rfl
  · by_cases h0 : l = 0
    · rw [if_pos (Or.inr ⟨rfl, h0⟩)]; exact Or.inr (Or.inr rfl)
    · rw [if_neg (by omega), if_neg (by omega), if_pos rfl]; exact Or.inr (Or.inl ⟨rfl, by omega, by omega⟩)
  · rw [if_pos (Or.inl rfl)]; exact Or.inr (Or.inr rfl)
theorem Fin.ar {s l : Int} (h : Fin s l) {k : Int} (hk : k ≤ 9223372036854775807) : Fin (arS s k) (arL s l k) := by
  unfold arS arL
  by_cases h0 : k < 0 ∨ s = 2
  · rw [if_pos h0, if_pos h0]; exact h
  · rw [if_neg h0, if_neg h0]; exact Or.inr (Or.inl ⟨rfl, by omega, hk⟩)
theorem fnew_s {w0 w : World} {L : List HP} (h : St w0 w L) : Calls Try.prog 12 #[] w fun e w' => ∃ f, e = .returned (.pointer (some ⟨f, 0, none⟩)) ∧ St w0 w' (fz f 0 0 :: L) :=
  (new_c w).mono fun e w' ⟨f, e1, hn, z, B⟩ => ⟨f, e1, h.new B (fz_loc f 0 0) ⟨z, rfl⟩ (fun i hi => by subst hi; exact hn)⟩
theorem arm_s {w0 w : World} {L : List HP} {f : Nat} {s l : Int} (k : Int) (h : St w0 w (fz f s l :: L)) : Calls Try.prog 14 #[.pointer (some ⟨f, 0, none⟩), .int .i64 k] w fun e w' => e = .returned (.int .i64 (arE s k)) ∧ St w0 w' (fz f (arS s k) (arL s l k) :: L) := by
  obtain ⟨S, ⟨z, rfl⟩, hh⟩ := h.one
  exact (arm_t f s l k w z).mono fun e w' ⟨e1, z', c⟩ => ⟨e1, hh (Chg.of_but c rfl) (fz_loc _ _ _) ⟨z', rfl⟩ (fun k _ hk => hk)⟩
theorem reset_s {w0 w : World} {L : List HP} {f : Nat} {s l : Int} (h : St w0 w (fz f s l :: L)) : Calls Try.prog 22 #[.pointer (some ⟨f, 0, none⟩)] w fun e w' => e = .returned (.tuple #[]) ∧ St w0 w' (fz f 0 0 :: L) := by
  obtain ⟨S, ⟨z, rfl⟩, hh⟩ := h.one
  exact (reset_c f s l w z).mono fun e w' ⟨e1, z', c⟩ => ⟨e1, hh (Chg.of_but c rfl) (fz_loc _ _ _) ⟨z', rfl⟩ (fun k _ hk => hk)⟩
theorem blown_s {w0 w : World} {L : List HP} {f : Nat} {s l : Int} (h : St w0 w (fz f s l :: L)) : Calls Try.prog 27 #[.pointer (some ⟨f, 0, none⟩)] w fun e w' => e = .returned (.bool (s == 2)) ∧ w' = w := by
  obtain ⟨S, z, _⟩ := h.hd
  exact blown_c f s l w z
theorem rarm_s {w0 w : World} {L : List HP} {f : Nat} {s l : Int} (k : Int) (h : St w0 w (rf f s l :: L)) (hk : k ≤ 9223372036854775807) : Calls Try.prog 24 #[.pointer (some ⟨f, 0, none⟩), .int .i64 k] w fun e w' => e = .returned (.int .i64 (arE s k)) ∧ St w0 w' (rf f (arS s k) (arL s l k) :: L) := by
  obtain ⟨S, ⟨z, rfl⟩, hh⟩ := h.one
  exact (rarm_f f s l k w z hk).mono fun e w' ⟨e1, z', c⟩ => ⟨e1, hh (Chg.of_but c rfl) (rf_loc _ _ _) ⟨z', rfl⟩ (fun k _ hk => hk)⟩
theorem rreset_s {w0 w : World} {L : List HP} {f : Nat} {s l : Int} (h : St w0 w (rf f s l :: L)) : Calls Try.prog 23 #[.pointer (some ⟨f, 0, none⟩)] w fun e w' => e = .returned (.tuple #[]) ∧ St w0 w' (rf f 0 0 :: L) := by
  obtain ⟨S, ⟨z, rfl⟩, hh⟩ := h.one
  exact (rreset_f f s l w z).mono fun e w' ⟨e1, z', c⟩ => ⟨e1, hh (Chg.of_but c rfl) (rf_loc _ _ _) ⟨z', rfl⟩ (fun k _ hk => hk)⟩
theorem bnew_s {w0 w : World} {L : List HP} (f : Nat) (h : St w0 w L) : Calls Try.prog 13 #[.pointer (some ⟨f, 0, none⟩)] w fun e w' => ∃ b, e = .returned (.tuple #[.pointer (some ⟨b, 0, none⟩), .int .i64 0]) ∧ St w0 w' (nz b f [] :: L) :=
  (bnew_c f w 0).mono fun e w' ⟨b, e1, hn, z, B⟩ => ⟨b, e1, h.new B (nz_loc b f []) ⟨none, z, rfl⟩ (fun i hi => Or.elim hi (fun q => q ▸ hn) (fun q => by cases q))⟩
theorem rbnew_s {w0 w : World} {L : List HP} (f : Nat) (h : St w0 w L) : Calls Try.prog 20 #[.pointer (some ⟨f, 0, none⟩)] w fun e w' => ∃ b, e = .returned (.tuple #[.pointer (some ⟨b, 0, none⟩), .int .i64 0]) ∧ St w0 w' (nr b f [] :: L) :=
  (rbnew_c f w 0).mono fun e w' ⟨b, e1, hn, z, B⟩ => ⟨b, e1, h.new B (nr_loc b f []) ⟨none, z, rfl⟩ (fun i hi => Or.elim hi (fun q => q ▸ hn) (fun q => by cases q))⟩
/-- The net's ticks behind a call of Send. -/
def seX (xs : List Int) (t s l : Int) : List Int := if t < 0 ∨ 1099511627776 < t ∨ s = 2 ∨ (s = 1 ∧ l = 0) then xs else xs ++ [t]
def seE (t s l : Int) : Int := if t < 0 ∨ 1099511627776 < t then 2 else buE s l
def seS (t s l : Int) : Int := if t < 0 ∨ 1099511627776 < t then s else buS s l
def seL (t s l : Int) : Int := if t < 0 ∨ 1099511627776 < t then l else buL s l
theorem Fin.se {s l : Int} (h : Fin s l) (t : Int) : Fin (seS t s l) (seL t s l) := by
  unfold seS seL
  by_cases h0 : t < 0 ∨ 1099511627776 < t
  · rw [if_pos h0, if_pos h0]; exact h
  · rw [if_neg h0, if_neg h0]; exact h.bu
theorem send_s {w0 w : World} {L : List HP} {b f : Nat} {s l : Int} {xs : List Int} (t : Int) (h : St w0 w (nz b f xs :: fz f s l :: L)) (hf : Fin s l) (hx : xs.length ≤ 100000) :
    Calls Try.prog 15 #[.pointer (some ⟨b, 0, none⟩), .int .i64 t] w fun e w' => e = .returned (.int .i64 (seE t s l)) ∧ St w0 w' (nz b f (seX xs t s l) :: fz f (seS t s l) (seL t s l) :: L) := by
  unfold seE seX seS seL
  by_cases hb : t < 0 ∨ 1099511627776 < t
  · rw [if_pos hb, if_pos hb, if_pos hb, if_pos (by omega)]
    exact (send_bad b t w hb).mono fun e w' ⟨e1, e2⟩ => by subst e2; exact ⟨e1, h⟩
  · rw [if_neg hb, if_neg hb, if_neg hb]
    obtain ⟨ar, le, r⟩ := hf.rl
    obtain ⟨S, T, ⟨o, n, rfl⟩, ⟨z, rfl⟩, dis, hh⟩ := h.two
    have hn := burn_t f s l ar le w z r
    by_cases hd : s = 2 ∨ (s = 1 ∧ l = 0)
    · rw [if_pos (by omega)]
      have e0 : buE s l = 10 := by unfold buE; rw [if_pos hd]
      rw [e0] at hn ⊢
      refine (send_no 0 b f o xs t 10 _ _ w n (by omega) (by decide) z hn).mono fun e w' ⟨e1, z', n', c⟩ => ⟨e1, hh (c.mono fun _ _ q => Or.inr q) (nz_loc _ _ _) ⟨o, n', rfl⟩ (fz_loc _ _ _) ⟨z', rfl⟩ (fun k _ q => Or.inl q) (fun k _ q => Or.inr q) dis⟩
    · rw [if_neg (by omega)]
      have e0 : buE s l = 0 := by unfold buE; rw [if_neg hd]
      rw [e0] at hn ⊢
      have hfl := z.lt
      refine (send_ok 0 b f o xs t _ _ w n (by omega) hx (by omega) z hn).mono fun e w' ⟨e1, z', ⟨o', ho, n'⟩, c⟩ => ⟨e1, hh (c.mono fun _ _ q => ?_) (nz_loc _ _ _) ⟨o', n', rfl⟩ (fz_loc _ _ _) ⟨z', rfl⟩ (fun k hk q => ?_) (fun k _ q => Or.inr q) (fun k q q2 => ?_)⟩
      · rcases q with q | q | q
        · exact Or.inr q
        · exact Or.inl (Or.inl q)
        · exact Or.inl (Or.inr q)
      · rcases q with q | q
        · exact Or.inl (Or.inl q)
        · rcases ho with ho | ⟨g, ho, hg⟩
          · exact Or.inl (Or.inr (ho ▸ q))
          · rw [ho] at q; injection q with q; omega
      · subst q2
        rcases q with q | q
        · exact dis k (Or.inl q) rfl
        · rcases ho with ho | ⟨g, ho, hg⟩
          · exact dis k (Or.inr (ho ▸ q)) rfl
          · rw [ho] at q; injection q with q; omega
theorem sent_s {w0 w : World} {L : List HP} {b f : Nat} {xs : List Int} (h : St w0 w (nz b f xs :: L)) (hx : xs.length ≤ 100000) :
    Calls Try.prog 17 #[.pointer (some ⟨b, 0, none⟩)] w fun e w' => ∃ A c, e = .returned (.slice A xs.length c) ∧ St w0 w' (row (.slice A xs.length c) xs :: nz b f xs :: L) := by
  obtain ⟨S, o, n, rfl⟩ := h.hd
  refine (sent_c 0 b f o xs w n hx).mono fun e w' ⟨u, e1, r, B⟩ => ?_
  obtain ⟨A, c, rfl, -, -⟩ := Kd.R_reads r
  exact ⟨A, c, e1, h.new B (row_loc _ xs) ⟨Kd.R_lower r (Nat.zero_le _), rfl⟩ (fun i hi => ((Kd.R_bound r).1 i hi).2.1)⟩
theorem bcopy_s {w0 w : World} {L : List HP} {b f : Nat} {xs : List Int} (f2 : Nat) (h : St w0 w (nz b f xs :: L)) (hx : xs.length ≤ 100000) :
    Calls Try.prog 19 #[.pointer (some ⟨b, 0, none⟩), .pointer (some ⟨f2, 0, none⟩)] w fun e w' => ∃ b2, e = .returned (.pointer (some ⟨b2, 0, none⟩)) ∧ St w0 w' (nz b2 f2 xs :: nz b f xs :: L) := by
  obtain ⟨S, o, n, rfl⟩ := h.hd
  exact (bcopy_c 0 b f f2 o xs w n hx (Nat.zero_le _)).mono fun e w' ⟨b2, o2, e1, hb, ho, n2, B⟩ => ⟨b2, e1, h.new B (nz_loc _ _ _) ⟨o2, n2, rfl⟩ (fun i hi => Or.elim hi (fun q => q ▸ hb) (fun q => ho i q))⟩
--REF
theorem rsend_s {w0 w : World} {L : List HP} {b f : Nat} {s l : Int} {xs : List Int} (t : Int) (h : St w0 w (nr b f xs :: rf f s l :: L)) (hf : Fin s l) (hx : xs.length ≤ 100000) :
    Calls Try.prog 25 #[.pointer (some ⟨b, 0, none⟩), .int .i64 t] w fun e w' => e = .returned (.int .i64 (seE t s l)) ∧ St w0 w' (nr b f (seX xs t s l) :: rf f (seS t s l) (seL t s l) :: L) := by
  unfold seE seX seS seL
  by_cases hb : t < 0 ∨ 1099511627776 < t
  · rw [if_pos hb, if_pos hb, if_pos hb, if_pos (by omega)]
    exact (rsend_bad b t w hb).mono fun e w' ⟨e1, e2⟩ => by subst e2; exact ⟨e1, h⟩
  · rw [if_neg hb, if_neg hb, if_neg hb]
    obtain ⟨ar, le, r⟩ := hf.rl
    obtain ⟨S, T, ⟨o, n, rfl⟩, ⟨z, rfl⟩, dis, hh⟩ := h.two
    have hn := rburn_f f s l w z
    by_cases hd : s = 2 ∨ (s = 1 ∧ l = 0)
    · rw [if_pos (by omega)]
      have e0 : buE s l = 10 := by unfold buE; rw [if_pos hd]
      rw [e0] at hn ⊢
      refine (rsend_no 0 b f o xs t 10 _ _ w n (by omega) (by decide) z hn).mono fun e w' ⟨e1, z', n', c⟩ => ⟨e1, hh (c.mono fun _ _ q => Or.inr q) (nr_loc _ _ _) ⟨o, n', rfl⟩ (rf_loc _ _ _) ⟨z', rfl⟩ (fun k _ q => Or.inl q) (fun k _ q => Or.inr q) dis⟩
    · rw [if_neg (by omega)]
      have e0 : buE s l = 0 := by unfold buE; rw [if_neg hd]
      rw [e0] at hn ⊢
      have hfl := z.lt
      refine (rsend_ok 0 b f o xs t _ _ w n (by omega) hx (by omega) z hn).mono fun e w' ⟨e1, z', ⟨o', ho, n'⟩, c⟩ => ⟨e1, hh (c.mono fun _ _ q => ?_) (nr_loc _ _ _) ⟨o', n', rfl⟩ (rf_loc _ _ _) ⟨z', rfl⟩ (fun k hk q => ?_) (fun k _ q => Or.inr q) (fun k q q2 => ?_)⟩
      · rcases q with q | q | q
        · exact Or.inr q
        · exact Or.inl (Or.inl q)
        · exact Or.inl (Or.inr q)
      · rcases q with q | q
        · exact Or.inl (Or.inl q)
        · rcases ho with ho | ⟨g, ho, hg⟩
          · exact Or.inl (Or.inr (ho ▸ q))
          · rw [ho] at q; injection q with q; omega
      · subst q2
        rcases q with q | q
        · exact dis k (Or.inl q) rfl
        · rcases ho with ho | ⟨g, ho, hg⟩
          · exact dis k (Or.inr (ho ▸ q)) rfl
          · rw [ho] at q; injection q with q; omega
theorem rsent_s {w0 w : World} {L : List HP} {b f : Nat} {xs : List Int} (h : St w0 w (nr b f xs :: L)) (hx : xs.length ≤ 100000) :
    Calls Try.prog 26 #[.pointer (some ⟨b, 0, none⟩)] w fun e w' => ∃ A c, e = .returned (.slice A xs.length c) ∧ St w0 w' (row (.slice A xs.length c) xs :: nr b f xs :: L) := by
  obtain ⟨S, o, n, rfl⟩ := h.hd
  refine (rsent_c 0 b f o xs w n hx).mono fun e w' ⟨u, e1, r, B⟩ => ?_
  obtain ⟨A, c, rfl, -, -⟩ := Kd.R_reads r
  exact ⟨A, c, e1, h.new B (row_loc _ xs) ⟨Kd.R_lower r (Nat.zero_le _), rfl⟩ (fun i hi => ((Kd.R_bound r).1 i hi).2.1)⟩
theorem rbcopy_s {w0 w : World} {L : List HP} {b f : Nat} {xs : List Int} (f2 : Nat) (h : St w0 w (nr b f xs :: L)) (hx : xs.length ≤ 100000) :
    Calls Try.prog 21 #[.pointer (some ⟨b, 0, none⟩), .pointer (some ⟨f2, 0, none⟩)] w fun e w' => ∃ b2, e = .returned (.pointer (some ⟨b2, 0, none⟩)) ∧ St w0 w' (nr b2 f2 xs :: nr b f xs :: L) := by
  obtain ⟨S, o, n, rfl⟩ := h.hd
  exact (rbcopy_c 0 b f f2 o xs w n hx (Nat.zero_le _)).mono fun e w' ⟨b2, o2, e1, hb, ho, n2, B⟩ => ⟨b2, e1, h.new B (nr_loc _ _ _) ⟨o2, n2, rfl⟩ (fun i hi => Or.elim hi (fun q => q ▸ hb) (fun q => ho i q))⟩

/-! ### EqualInts -/
theorem eqints_l0 (l : List Int) (hlen : l.length ≤ 100000) (d : Nat) : ∀ (k i : Nat), i ≤ l.length → l.length - i ≤ d → d + 1 ≤ k → PBeatGrows.sacristankit_EqualInts.l0 k l l (i : Int) = some true := by
  induction d with
  | zero =>
    intro k i hi hd hk
    obtain ⟨k, rfl⟩ : ∃ q, k = q + 1 := ⟨k - 1, by omega⟩
    simp only [PBeatGrows.sacristankit_EqualInts.l0]
    rw [if_neg (by omega)]
  | succ d ih =>
    intro k i hi hd hk
    obtain ⟨k, rfl⟩ : ∃ q, k = q + 1 := ⟨k - 1, by omega⟩
    simp only [PBeatGrows.sacristankit_EqualInts.l0]
    by_cases hlt : i < l.length
    · rw [if_pos (by omega), if_pos (by omega), if_pos (by omega), if_pos trivial, show wrap64 ((i : Int) + 1) = ((i + 1 : Nat) : Int) by unfold wrap64; omega]
      exact ih k (i + 1) (by omega) (by omega) (by omega)
    · rw [if_neg (by omega)]
theorem eq_c (xs : List Int) (hlen : xs.length ≤ 100000) (A B : Option Addr) (c d : Nat) (w : World) (hA : (Kd.int .i64).C w A xs.length xs) (hc : xs.length ≤ c) (hB : (Kd.int .i64).C w B xs.length xs) (hd : xs.length ≤ d) :
    Calls Try.prog 16 #[.slice A xs.length c, .slice B xs.length d] w fun e w' => e = .returned (.bool true) ∧ Below w.heap.size w w' := by
  refine (PBeatGrows.sacristankit_EqualInts.calls (xs.length + 1) A c xs B d xs true w hA hc hB hd ?_).mono fun e w' ⟨e1, m, e2⟩ => ⟨e1, by subst e2; exact pw_below_drewN (Below.refl _ _) m⟩
  unfold PBeatGrows.sacristankit_EqualInts.f
  rw [if_pos rfl]
  exact eqints_l0 xs hlen xs.length _ 0 (by omega) (by omega) (by omega)
/-- Two rows of the law's own. -/
theorem eq_s {w0 w : World} {L : List HP} {u v : Value} {xs : List Int} (h : St w0 w (row u xs :: row v xs :: L)) (hlen : xs.length ≤ 100000) :
    Calls Try.prog 16 #[u, v] w fun e w' => e = .returned (.bool true) ∧ St w0 w' (row u xs :: row v xs :: L) := by
  obtain ⟨S, hu, -⟩ := h.hd
  obtain ⟨T, hv, -⟩ := h.drop.hd
  obtain ⟨A, c, rfl, hc, hA⟩ := Kd.R_reads hu
  obtain ⟨B, d, rfl, hd, hB⟩ := Kd.R_reads hv
  exact (eq_c xs hlen A B c d w hA hc hB hd).mono fun e w' ⟨e1, e2⟩ => ⟨e1, h.more e2⟩
/-- A literal. -/
theorem lit_s {w0 w : World} {L : List HP} (xs : List Int) (n : Nat) (cs : Array Value) (h : St w0 w L) (hn : n = xs.length) (hcs : cs = (xs.map (Value.int .i64)).toArray) (hm : xs.length ≤ 100000) :
    St w0 (w.alloc (.cells cs 3)) (row (.slice (some ⟨w.heap.size, 0, none⟩) n n) xs :: L) := by
  subst hn; subst hcs
  have ho := World.ownsRow_lit (base := 0) (e := 3) (size := 1) w (xs.map (Value.int .i64)).toArray xs.length (Nat.zero_le _) (by simp only [maxLen]; omega) (by simp)
  exact h.new (below_alloc (Below.refl _ _) _) (row_loc _ xs) ⟨Kd.R_of_own (by simpa [encs] using ho) (fun _ _ => trivial), rfl⟩ (fun i hi => by simp [Value.ownBlock] at hi; omega)
end Go.Proofs.Ytecneikblkjgoaa
