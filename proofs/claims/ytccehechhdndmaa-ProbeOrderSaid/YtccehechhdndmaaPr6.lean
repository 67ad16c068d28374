/- The law ProbeOrder. Printed by gen/probe6.py. -/
import Derived.Test.YtccehechhdndmaaBase
import Derived.Test.YtccehechhdndmaaSep
import Derived.Test.YtccehechhdndmaaSepB
import Derived.Test.YtccehechhdndmaaOpen
import Derived.Test.YtccehechhdndmaaProg
import Derived.Lib.Hide
import Derived.Deep.Cut
import Derived.Deep.CutRange
import Derived.Deep.RegionWith
import Derived.Test.YtccehechhdndmaaPr0
import Derived.Test.YtccehechhdndmaaPr1
import Derived.Test.YtccehechhdndmaaPr2
import Derived.Test.YtccehechhdndmaaPr3
import Derived.Test.YtccehechhdndmaaPr4
import Derived.Test.YtccehechhdndmaaPr5
namespace Go.Proofs.Ytccehechhdndmaa
open Go.RowKit
set_option linter.unusedSimpArgs false
set_option linter.unusedVariables false

abbrev DE := E39
def dk (x : DE) : Tok := ⟨x.f0, x.f1, x.f2⟩
def tellD (f : Tok → Nat) (x : DE) : Tok → Nat := tellF f (dk x) x.f3
def told (M : List DE) : Tok → Nat := M.foldl tellD (fun _ => 0)
theorem told_nil : told [] = fun _ => 0 := rfl
theorem told_snoc (M : List DE) (x : DE) : told (M ++ [x]) = tellF (told M) (dk x) x.f3 := by simp [told, tellD]
theorem told_take (M : List DE) (k : Nat) (h : k < M.length) : told (M.take (k + 1)) = tellF (told (M.take k)) (dk M[k]) M[k].f3 := by rw [List.take_succ_eq_append_getElem h, told_snoc]
theorem tellF_at {f g : Tok → Nat} {t : Tok} (ok : Bool) (h : f t = g t) : tellF f t ok t = tellF g t ok t := by unfold tellF; rw [h]
theorem told_no (M : List DE) (t : Tok) (h : t ∉ M.map dk) : told M t = 0 := by
  suffices H : ∀ (L : List DE) (f : Tok → Nat), t ∉ L.map dk → (L.foldl tellD f) t = f t by exact H M _ h
  intro L
  induction L with
  | nil => intro f _; rfl
  | cons x L ih =>
    intro f hn
    simp only [List.map_cons, List.mem_cons, not_or] at hn
    rw [List.foldl_cons, ih _ hn.2]
    exact tellF_ne _ (fun e => hn.1 e.symm)
/-- What the health 'one' holds behind k rounds. -/
def oneF (M : List DE) (k : Nat) (G : Tok → Nat) : Prop := ∀ t, G t = if t ∈ (M.take k).map dk then told M t else 0
/-- .. and in the middle of round k, before entry j. -/
def midF (M : List DE) (k j : Nat) (T : Tok) (G : Tok → Nat) : Prop := ∀ t, G t = if t = T then told (M.take j) T else if t ∈ (M.take k).map dk then told M t else 0
theorem oneF_zero (M : List DE) : oneF M 0 (fun _ => 0) := fun t => by simp
theorem take_mem {M : List DE} {k : Nat} (h : k < M.length) (t : Tok) : t ∈ (M.take (k + 1)).map dk ↔ (t ∈ (M.take k).map dk ∨ t = dk M[k]) := by
  rw [List.take_succ_eq_append_getElem h, List.map_append, List.mem_append]; simp
theorem midF_start {M : List DE} {k : Nat} {T : Tok} {G : Tok → Nat} (h : oneF M k G) (hT : T ∉ (M.take k).map dk) : midF M k k T G := fun t => by
  rw [h t]
  by_cases e : t = T
  · subst e; rw [if_neg hT, if_pos rfl, told_no _ _ hT]
  · rw [if_neg e]
theorem midF_skip {M : List DE} {k j : Nat} {T : Tok} {G : Tok → Nat} (h : midF M k j T G) (hj : j < M.length) (hne : dk M[j] ≠ T) : midF M k (j + 1) T G := fun t => by
  rw [h t, told_take M j hj, tellF_ne _ hne]
theorem midF_tell {M : List DE} {k j : Nat} {T : Tok} {G : Tok → Nat} (h : midF M k j T G) (hj : j < M.length) (he : dk M[j] = T) : midF M k (j + 1) T (tellF G T M[j].f3) := fun t => by
  by_cases e : t = T
  · subst e
    rw [if_pos rfl, told_take M j hj, he]
    exact tellF_at _ (by rw [h t, if_pos rfl])
  · rw [tellF_ne _ (fun q => e q.symm), h t, if_neg e, if_neg e]
theorem midF_end {M : List DE} {k : Nat} {G : Tok → Nat} (hk : k < M.length) (h : midF M k M.length (dk M[k]) G) : oneF M (k + 1) G := fun t => by
  rw [h t, List.take_length]
  by_cases e : t = dk M[k]
  · rw [if_pos e, if_pos ((take_mem hk t).2 (Or.inr e)), e]
  · rw [if_neg e]
    by_cases q : t ∈ (M.take k).map dk
    · rw [if_pos q, if_pos ((take_mem hk t).2 (Or.inl q))]
    · rw [if_neg q, if_neg (fun z => ((take_mem hk t).1 z).elim q e)]
theorem oneF_before {M : List DE} {k : Nat} {G : Tok → Nat} (hk : k < M.length) (h : oneF M k G) (hb : dk M[k] ∈ (M.take k).map dk) : oneF M (k + 1) G := fun t => by
  rw [h t]
  by_cases q : t ∈ (M.take k).map dk
  · rw [if_pos q, if_pos ((take_mem hk t).2 (Or.inl q))]
  · rw [if_neg q, if_neg (fun z => ((take_mem hk t).1 z).elim q (fun e => q (e ▸ hb)))]
theorem oneF_end {M : List DE} {G : Tok → Nat} (h : oneF M M.length G) {k : Nat} (hk : k < M.length) : G (dk M[k]) = told M (dk M[k]) := by
  rw [h, List.take_length, if_pos (List.mem_map_of_mem (List.getElem_mem hk))]
theorem rdD_get (l : List DE) (k : Nat) (h : k < l.length) : rdE39 l k = l[k] := by simp [rdE39, h]
/-- The deeds that are walked: at most 60, in memory since before. -/
structure DS (w : World) (A : Option Addr) (M : List DE) (n : Nat) : Prop where
  len : M.length = n
  le : n ≤ 60
  at_ : ∀ k (h : k < M.length), ∃ b off, A = some ⟨b, off, none⟩ ∧ b < w.heap.size ∧ tokW (dk M[k]) ∧ w.cell? ⟨b, off + k * 6, none⟩ = some (.int .i64 (dk M[k]).a) ∧ w.cell? ⟨b, off + k * 6 + 1, none⟩ = some (.int .i64 (dk M[k]).b) ∧ w.cell? ⟨b, off + k * 6 + 2, none⟩ = some (.int .i64 (dk M[k]).c) ∧ w.cell? ⟨b, off + k * 6 + 3, none⟩ = some (.bool M[k].f3)
theorem ds_of {w : World} {A : Option Addr} {c : Nat} {l : List DE} (h : SL30 w A c l) : DS w A (l.take 60) (min l.length 60) := by
  obtain ⟨-, -, h3⟩ := h
  refine ⟨by simp [Nat.min_comm], by omega, fun k hk => ?_⟩
  have hk1 : k < l.length := by simp at hk; omega
  have hk2 : k < 60 := by simp at hk; omega
  obtain ⟨b, off, rfl, hb, hc⟩ := h3.resolve_left (by rintro rfl; simp at hk1)
  obtain ⟨x0, g0, x1, g1, x2, g2, x3, -⟩ := hc k hk1
  rw [rdD_get l k hk1] at x0 g0 x1 g1 x2 g2 x3
  have e : (l.take 60)[k] = l[k] := by simp
  rw [e]
  exact ⟨b, off, rfl, hb, ⟨g0, g1, g2⟩, x0, x1, x2, x3⟩
set_option maxRecDepth 100000 in
set_option maxHeartbeats 8000000 in
theorem walk_ProbeOrder (w : World) (A : Option Addr) (c : Nat) (l : List DE) (hl : SL30 w A c l) :
    Calls Try.prog 7 #[.slice A l.length c] w fun e w' => e = .returned (.bool true) ∧ Below w.heap.size w w' := by
  have hds := ds_of hl
  obtain ⟨l1, l2, -⟩ := hl
  have hmax : l.length ≤ 9223372036854775807 := by have := l2; simp only [maxLen] at this; omega
  have hlc : (l.length : Int) ≤ (c : Int) := by omega
  clear l1 l2
  have a0 := St.start w
  go_enter Try.func7, Try.ntmps7
  go_wp2_with fail
  refine (pnew_s a0).mono ?_
  rintro e_ w1 ⟨p, rfl, a1⟩
  clear a0
  go_wp2_with fail
  refine (pnew_s a1).mono ?_
  rintro e_ w2 ⟨q, rfl, a2⟩
  clear a1
  go_upto_region 5 with fail
  go_cut [0, 5] from 11 to 23 (fun v0 v5 wc => v0 = .slice A (min l.length 60) c ∧ v5 = .int .i64 0 ∧ wc = w2)
  case first =>
    by_cases hm : l.length ≤ 60
    · have hmi : (l.length : Int) ≤ 60 := by omega
      go_wp2_with fail
      all_goals go_meet
      all_goals (rw [Nat.min_eq_left hm]; exact ⟨rfl, rfl, rfl⟩)
    · have hmi : (60 : Int) < (l.length : Int) := by omega
      have hc60 : (60 : Int) ≤ (c : Int) := by omega
      go_wp2_with fail
      all_goals go_meet
      all_goals (rw [Nat.min_eq_right (by omega)]; exact ⟨rfl, rfl, rfl⟩)
  case rest =>
    obtain ⟨rfl, rfl, rfl⟩ := hcut
    clear hlc hmax
    generalize l.take 60 = M at *
    generalize min l.length 60 = n at *
    have hn60 : (n : Int) ≤ 60 := by have := hds.le; omega
    have hMn : M.length = n := hds.len
    have HD := Lib.hid hds
    clear hds
    go_wp2_with fail
    go_loopw [5] (fun v wr => ∃ (k a : Nat), v = .int .i64 k ∧ k ≤ n ∧ a ≤ k ∧ St w wr [hz p a (told (M.take k)), hz q 0 (fun _ => 0)]) (fun v _ => 60 - (intOf v).toNat)
    case atStart => exact ⟨0, 0, rfl, by omega, by omega, a2.pick 1⟩
    case round =>
      clear a2
      obtain ⟨k, a, rfl, hk, ha, h0⟩ := hrel
      by_cases mk : k < n
      · skip
        obtain ⟨xb, xo, xA, xhb, xw, x0, x1, x2, x3⟩ := HD.out.at_ k (by rw [hMn]; exact mk)
        have xz0 : wr.cell? ⟨xb, xo + k * 6, none⟩ = _ := (h0.bel.cell xhb).trans x0
        have xz1 : wr.cell? ⟨xb, xo + k * 6 + 1, none⟩ = _ := (h0.bel.cell xhb).trans x1
        have xz2 : wr.cell? ⟨xb, xo + k * 6 + 2, none⟩ = _ := (h0.bel.cell xhb).trans x2
        have xz3 : wr.cell? ⟨xb, xo + k * 6 + 3, none⟩ = _ := (h0.bel.cell xhb).trans x3
        clear x0 x1 x2 x3
        subst xA
        have hT := told_take M k (by rw [hMn]; exact mk)
        generalize M[k] = x at *
        have kk0 : (0 : Int) ≤ (k : Int) := by omega
        have kk1 : (k : Int) < (n : Int) := by omega
        generalize told (M.take k) = F at *
        go_wp2
        have h1 : St w wr.drew [hz p a F, hz q 0 (fun _ => 0)] := h0.more (Below.refl _ _).drew
        go_region_with (go_at_call 27; (refine (tell_s (dk x) x.f3 h1 xw (by omega)).mono ?_); rintro e_ w9 ⟨rfl, h9⟩)
        all_goals rw [← hT] at h9
        all_goals clear h0 h1
        all_goals go_wp2
        all_goals go_roundw
        all_goals first | exact ⟨k + 1, a + 1, by go_num, by omega, by omega, h9⟩ | (simp [intOf]; omega)
      · have hkn : k = n := by omega
        subst k
        rw [show M.take n = M by rw [← hMn, List.take_length]] at h0
        go_wp2_with fail
        go_loopw [6] (fun v wr => ∃ (k b : Nat) (G : Tok → Nat), v = .int .i64 k ∧ k ≤ n ∧ b ≤ 60 * k ∧ oneF M k G ∧ St w wr [hz p a (told M), hz q b G]) (fun v _ => 60 - (intOf v).toNat)
        case atStart => exact ⟨0, 0, _, rfl, by omega, by omega, oneF_zero M, h0⟩
        case round =>
          clear h0 hk mk
          obtain ⟨k, b, G, rfl, hk, hb, hG, h0⟩ := hrel
          by_cases mk : k < n
          · skip
            obtain ⟨xb, xo, xA, xhb, xw, x0, x1, x2, x3⟩ := HD.out.at_ k (by rw [hMn]; exact mk)
            have xz0 : wr.cell? ⟨xb, xo + k * 6, none⟩ = _ := (h0.bel.cell xhb).trans x0
            have xz1 : wr.cell? ⟨xb, xo + k * 6 + 1, none⟩ = _ := (h0.bel.cell xhb).trans x1
            have xz2 : wr.cell? ⟨xb, xo + k * 6 + 2, none⟩ = _ := (h0.bel.cell xhb).trans x2
            have xz3 : wr.cell? ⟨xb, xo + k * 6 + 3, none⟩ = _ := (h0.bel.cell xhb).trans x3
            clear x0 x1 x2 x3
            subst xA
            have hkM : k < M.length := by rw [hMn]; exact mk
            have hb2 : dk M[k] ∈ (M.take k).map dk → oneF M (k + 1) G := oneF_before hkM hG
            have hb3 : dk M[k] ∉ (M.take k).map dk → midF M k k (dk M[k]) G := midF_start hG
            have hb4 : ∀ G, midF M k M.length (dk M[k]) G → oneF M (k + 1) G := fun G h => midF_end hkM h
            clear hG
            generalize M[k] = x at *
            obtain ⟨T, eT⟩ : ∃ T : Tok, T = dk x := ⟨_, rfl⟩
            rw [← eT] at hb2 hb3 hb4 xz0 xz1 xz2 xw
            clear eT xz3
            have xk0 : w.cell? ⟨xb, xo + k * 6, none⟩ = some (.int .i64 T.a) := (h0.bel.cell xhb).symm.trans xz0
            have xk1 : w.cell? ⟨xb, xo + k * 6 + 1, none⟩ = some (.int .i64 T.b) := (h0.bel.cell xhb).symm.trans xz1
            have xk2 : w.cell? ⟨xb, xo + k * 6 + 2, none⟩ = some (.int .i64 T.c) := (h0.bel.cell xhb).symm.trans xz2
            have kk0 : (0 : Int) ≤ (k : Int) := by omega
            have kk1 : (k : Int) < (n : Int) := by omega
            go_wp2_with fail
            go_loopw [7, 8] (fun v i wr => ∃ j : Nat, v = .bool (decide (T ∈ (M.take j).map dk)) ∧ i = .int .i64 j ∧ j ≤ k ∧ St w wr [hz p a (told M), hz q b G]) (fun _ i _ => 60 - (intOf i).toNat)
            case atStart => exact ⟨0, by simp, rfl, by omega, h0⟩
            case round =>
              clear h0 xz0 xz1 xz2
              obtain ⟨j, rfl, rfl, hj, h0⟩ := hrel
              by_cases mj : j < k
              · skip
                obtain ⟨yb, yo, yA, yhb, yw, y0, y1, y2, y3⟩ := HD.out.at_ j (by rw [hMn]; exact (by omega : j < n))
                have yz0 : wr.cell? ⟨yb, yo + j * 6, none⟩ = _ := (h0.bel.cell yhb).trans y0
                have yz1 : wr.cell? ⟨yb, yo + j * 6 + 1, none⟩ = _ := (h0.bel.cell yhb).trans y1
                have yz2 : wr.cell? ⟨yb, yo + j * 6 + 2, none⟩ = _ := (h0.bel.cell yhb).trans y2
                have yz3 : wr.cell? ⟨yb, yo + j * 6 + 3, none⟩ = _ := (h0.bel.cell yhb).trans y3
                clear y0 y1 y2 y3
                cases yA
                have xz0 : wr.cell? ⟨xb, xo + k * 6, none⟩ = some (.int .i64 T.a) := (h0.bel.cell xhb).trans xk0
                have xz1 : wr.cell? ⟨xb, xo + k * 6 + 1, none⟩ = some (.int .i64 T.b) := (h0.bel.cell xhb).trans xk1
                have xz2 : wr.cell? ⟨xb, xo + k * 6 + 2, none⟩ = some (.int .i64 T.c) := (h0.bel.cell xhb).trans xk2
                have hx : decide (T ∈ (M.take (j + 1)).map dk) = (decide (T ∈ (M.take j).map dk) || decide (dk M[j] = T)) := by simp only [take_mem (show j < M.length by rw [hMn]; omega)]; simp [eq_comm]
                generalize M[j] = y at *
                have kj0 : (0 : Int) ≤ (j : Int) := by omega
                have kj1 : (j : Int) < (k : Int) := by omega
                have kj2 : (j : Int) < (n : Int) := by omega
                have heq := eq_tok (dk y) T
                by_cases hi : T ∈ (M.take j).map dk
                · rw [show decide (T ∈ (M.take j).map dk) = true by simp only [hi, decide_true, decide_false]] at hx ⊢
                  simp only [Bool.true_or] at hx
                  clear hi
                  go_wp2
                  go_quiet (fail)
                  have h1 := h0.more (below_drewN (Below.refl _ _) nq)
                  clear h0
                  go_wp2
                  all_goals go_roundw
                  all_goals first | exact ⟨j + 1, by rw [hx], by go_num, by omega, h1⟩ | (simp [intOf]; omega)
                · rw [show decide (T ∈ (M.take j).map dk) = false by simp only [hi, decide_true, decide_false]] at hx ⊢
                  simp only [Bool.false_or] at hx
                  clear hi
                  go_wp2
                  go_quiet (fail)
                  have h1 := h0.more (below_drewN (Below.refl _ _) nq)
                  clear h0
                  go_wp2
                  all_goals go_roundw
                  all_goals first | exact ⟨j + 1, by rw [hx], by go_num, by omega, h1⟩ | (simp [intOf]; omega)
              · have hjk : j = k := by omega
                subst j
                clear mj hj
                by_cases hi : T ∈ (M.take k).map dk
                · rw [show decide (T ∈ (M.take k).map dk) = true by simp only [hi, decide_true]]
                  have hn1 := hb2 hi
                  clear hb2 hb3 hb4 hi
                  go_wp2_with fail
                  refine wp_loop_rounds 1 ?_
                  rw [rounds_succ]
                  go_wp2
                  all_goals go_roundw
                  all_goals first | exact ⟨k + 1, b, G, by go_num, by omega, by omega, hn1, h0⟩ | (simp [intOf]; omega)
                · rw [show decide (T ∈ (M.take k).map dk) = false by simp only [hi, decide_false]]
                  have hm1 := hb3 hi
                  clear hb2 hb3 hi
                  go_wp2_with fail
                  go_loopw [9] (fun v wr => ∃ (j b2 : Nat) (G2 : Tok → Nat), v = .int .i64 j ∧ k ≤ j ∧ j ≤ n ∧ b2 + k ≤ b + j ∧ midF M k j T G2 ∧ St w wr [hz p a (told M), hz q b2 G2]) (fun v _ => 60 - (intOf v).toNat)
                  case atStart => exact ⟨k, b, G, rfl, by omega, by omega, by omega, hm1, h0⟩
                  case round =>
                    clear hm1 h0
                    obtain ⟨j, b2, G2, rfl, hj1, hj2, hj3, hm, h0⟩ := hrel
                    by_cases mj : j < n
                    · skip
                      obtain ⟨yb, yo, yA, yhb, yw, y0, y1, y2, y3⟩ := HD.out.at_ j (by rw [hMn]; exact mj)
                      have yz0 : wr.cell? ⟨yb, yo + j * 6, none⟩ = _ := (h0.bel.cell yhb).trans y0
                      have yz1 : wr.cell? ⟨yb, yo + j * 6 + 1, none⟩ = _ := (h0.bel.cell yhb).trans y1
                      have yz2 : wr.cell? ⟨yb, yo + j * 6 + 2, none⟩ = _ := (h0.bel.cell yhb).trans y2
                      have yz3 : wr.cell? ⟨yb, yo + j * 6 + 3, none⟩ = _ := (h0.bel.cell yhb).trans y3
                      clear y0 y1 y2 y3
                      cases yA
                      have xz0 : wr.cell? ⟨xb, xo + k * 6, none⟩ = some (.int .i64 T.a) := (h0.bel.cell xhb).trans xk0
                      have xz1 : wr.cell? ⟨xb, xo + k * 6 + 1, none⟩ = some (.int .i64 T.b) := (h0.bel.cell xhb).trans xk1
                      have xz2 : wr.cell? ⟨xb, xo + k * 6 + 2, none⟩ = some (.int .i64 T.c) := (h0.bel.cell xhb).trans xk2
                      have hjM : j < M.length := by rw [hMn]; exact mj
                      have hs1 : dk M[j] ≠ T → midF M k (j + 1) T G2 := midF_skip hm hjM
                      have hs2 : dk M[j] = T → midF M k (j + 1) T (tellF G2 T M[j].f3) := midF_tell hm hjM
                      clear hm hb4
                      generalize M[j] = y at *
                      have kj0 : (0 : Int) ≤ (j : Int) := by omega
                      have kj2 : (j : Int) < (n : Int) := by omega
                      have heq := eq_tok (dk y) T
                      by_cases he : dk y = T
                      · rw [show decide (dk y = T) = true by simp [he]] at heq
                        have hs3 := hs2 he
                        clear hs1 hs2
                        go_wp2
                        go_quiet (fail)
                        have h1 := h0.more (below_drewN (Below.refl _ _) nq)
                        clear h0
                        go_wp2
                        have yq0 := show (wr.drewN nq).cell? ⟨xb, xo + j * 6, none⟩ = _ from yz0
                        have yq1 := show (wr.drewN nq).cell? ⟨xb, xo + j * 6 + 1, none⟩ = _ from yz1
                        have yq2 := show (wr.drewN nq).cell? ⟨xb, xo + j * 6 + 2, none⟩ = _ from yz2
                        have yq3 := show (wr.drewN nq).cell? ⟨xb, xo + j * 6 + 3, none⟩ = _ from yz3
                        clear yz0 yz1 yz2 yz3 xz0 xz1 xz2 heq
                        generalize wr.drewN nq = wq at *
                        have ht := tell_s T y.f3 ((h1.pick 1).more (Below.refl _ _).drew) xw (by omega)
                        simp only [tokV] at ht
                        go_region_with (go_at_call 27; (with_reducible refine ht.mono ?_); rintro e_ w9 ⟨rfl, h9⟩)
                        all_goals have h9 := h9.pick 1
                        all_goals clear h1 ht
                        all_goals go_wp2
                        all_goals go_roundw
                        all_goals first | exact ⟨j + 1, b2 + 1, _, by go_num, by omega, by omega, by omega, hs3, h9⟩ | (simp [intOf]; omega)
                      · rw [show decide (dk y = T) = false by simp [he]] at heq
                        have hs3 := hs1 he
                        clear hs1 hs2
                        go_wp2
                        go_quiet (fail)
                        have h1 := h0.more (below_drewN (Below.refl _ _) nq)
                        clear h0
                        go_wp2
                        all_goals go_roundw
                        all_goals first | exact ⟨j + 1, b2, _, by go_num, by omega, by omega, by omega, hs3, h1⟩ | (simp [intOf]; omega)
                    · have hjn : j = n := by omega
                      subst j
                      have hn1 : oneF M (k + 1) G2 := hb4 G2 (by rw [hMn]; exact hm)
                      clear hm hb4
                      go_wp2
                      all_goals go_roundw
                      all_goals first | exact ⟨k + 1, b2, G2, by go_num, by omega, by omega, hn1, h0⟩ | (simp [intOf]; omega)
          · have hkn : k = n := by omega
            subst k
            have hgt : ∀ k (h : k < M.length), G (dk M[k]) = told M (dk M[k]) := fun k h => oneF_end (by rw [hMn]; exact hG) h
            clear hG hb
            generalize told M = F at *
            go_wp2_with fail
            go_loopw [10] (fun v wr => ∃ j : Nat, v = .int .i64 j ∧ j ≤ n ∧ St w wr [hz p a F, hz q b G]) (fun v _ => 60 - (intOf v).toNat)
            case atStart => exact ⟨0, rfl, by omega, h0⟩
            case round =>
              clear h0
              obtain ⟨j, rfl, hj, h0⟩ := hrel
              by_cases mj : j < n
              · skip
                obtain ⟨yb, yo, yA, yhb, yw, y0, y1, y2, y3⟩ := HD.out.at_ j (by rw [hMn]; exact mj)
                have yz0 : wr.cell? ⟨yb, yo + j * 6, none⟩ = _ := (h0.bel.cell yhb).trans y0
                have yz1 : wr.cell? ⟨yb, yo + j * 6 + 1, none⟩ = _ := (h0.bel.cell yhb).trans y1
                have yz2 : wr.cell? ⟨yb, yo + j * 6 + 2, none⟩ = _ := (h0.bel.cell yhb).trans y2
                have yz3 : wr.cell? ⟨yb, yo + j * 6 + 3, none⟩ = _ := (h0.bel.cell yhb).trans y3
                clear y0 y1 y2 y3
                subst yA
                have hge := hgt j (by rw [hMn]; exact mj)
                clear hgt
                generalize M[j] = y at *
                obtain ⟨T, eT⟩ : ∃ T : Tok, T = dk y := ⟨_, rfl⟩
                rw [← eT] at yz0 yz1 yz2 yw hge
                clear eT yz3
                have kj0 : (0 : Int) ≤ (j : Int) := by omega
                have kj2 : (j : Int) < (n : Int) := by omega
                obtain ⟨bp, hp⟩ := hz_lt h0
                obtain ⟨bq, hq⟩ := hz_lt (h0.pick 1)
                have cz : ∀ v, Below wr.heap.size wr (wr.up v) := fun v => up_below _ _
                have ybr : yb < wr.heap.size := Nat.lt_of_lt_of_le yhb h0.bel.size
                have yu0 : ∀ v, (wr.up v).cell? ⟨yb, yo + j * 6, none⟩ = some (.int .i64 T.a) := fun v => (up_cell wr v _ ybr).trans yz0
                have yu1 : ∀ v, (wr.up v).cell? ⟨yb, yo + j * 6 + 1, none⟩ = some (.int .i64 T.b) := fun v => (up_cell wr v _ ybr).trans yz1
                have yu2 : ∀ v, (wr.up v).cell? ⟨yb, yo + j * 6 + 2, none⟩ = some (.int .i64 T.c) := fun v => (up_cell wr v _ ybr).trans yz2
                have hpu : ∀ v, HZ (wr.up v) p bp a F := fun v => hp.keep (fun i hi => (cz v).block i (by rcases hi with rfl | rfl; exact vlt hp.2.1; exact hp.2.2.lt))
                have hqu : ∀ v, HZ (wr.up v) q bq b G := fun v => hq.keep (fun i hi => (cz v).block i (by rcases hi with rfl | rfl; exact vlt hq.2.1; exact hq.2.2.lt))
                have f1 := fun v => calls_up (fails_c p bp a F T (wr.up v) (hpu v) yw)
                have f2 := fun v => calls_up (fails_c q bq b G T (wr.up v) (hqu v) yw)
                have f3 := fun v => calls_up (sick_c p bp a F T 2 (wr.up v) (hpu v) yw)
                have f4 := fun v => calls_up (sick_c q bq b G T 2 (wr.up v) (hqu v) yw)
                rw [hge] at f2 f4
                clear hpu hqu hp hq yw hge yz0 yz1 yz2
                generalize F T = ft at *
                generalize sickB ft 2 = sk at *
                simp only [tokV] at f1 f2 f3 f4
                go_wp2
                refine wp_region_up_lit (by kernel_rfl) (by kernel_rfl) ?_
                repeat (go_big_quiet_step ((first | (with_reducible exact f1 _) | (with_reducible exact f2 _) | (with_reducible exact f3 _) | (with_reducible exact f4 _))))
                refine wpQuiet_nil ?_
                intro wz hwz
                have hbz := up_ex hwz
                clear hwz
                have h1 := h0.more hbz
                clear h0 hbz f1 f2 f3 f4 cz yu0 yu1 yu2
                go_wp2
                all_goals go_roundw
                all_goals first | exact ⟨j + 1, by go_num, by omega, h1⟩ | (simp [intOf]; omega)
              · skip
                go_wp2_with fail
                refine (awake_s _).mono ?_
                rintro e_ w9 ⟨rfl, hb9⟩
                have hB9 := below_then h0.bel hb9
                clear h0
                go_wp2
                go_returns
                exact ⟨rfl, hB9⟩
end Go.Proofs.Ytccehechhdndmaa
