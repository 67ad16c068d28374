/- The contracts of the reader of spec: num, spec; what it panics with. -/
import Derived.Test.YtkhcdichdnbcmaaRBase
import Derived.Test.YtkhcdichdnbcmaaRSep
import Derived.Test.YtkhcdichdnbcmaaRSepB
import Derived.Test.YtkhcdichdnbcmaaRSepK
import Derived.Test.YtkhcdichdnbcmaaRSp0
import Derived.Test.YtkhcdichdnbcmaaRSpD
import Derived.Test.YtkhcdichdnbcmaaRPackU
import Derived.Test.YtkhcdichdnbcmaaRProg
import Derived.Lib.Hide
import Derived.WalkLawsBesides
import Derived.Deep.RegionHeld3
import Derived.Deep.RegionLaw
import Derived.Test.YtkhcdichdnbcmaaRWWords
namespace Go.Proofs.YtkhcdichdnbcmaaR
open Go.RowKit Go.Proofs.YtkhcdichdnbcmaaRW.PrintWords Go.Proofs.YtkhcdichdnbcmaaR.Sp Go.Proofs.YtkhcdichdnbcmaaR.Ext
set_option linter.unusedSimpArgs false
set_option linter.unusedVariables false

/-- What the reader panics with. -/
def formP : List PanicEntry := [{ v := .iface 31 (.int .i64 4), recovered := false }]
abbrev rdr (R : Nat) (l : List UInt8) : HP := blk R #[.string (mkB l)] 115
set_option maxHeartbeats 1000000 in
theorem num_s {w0 w : World} {L : List HP} (R : Nat) (l : List UInt8) (most : Int) (hm : 0 ≤ most) (hm2 : most ≤ 9223372036854775807) (h : St w0 w (rdr R l :: L)) :
    Calls Try.prog 90 #[.pointer (some ⟨R, 0, none⟩), .int .i64 most] w fun e w' => match numL most l with
      | none => e = .panicked formP ∧ St w0 w' (rdr R l :: L)
      | some x => e = .returned (.int .i64 x.1) ∧ St w0 w' (rdr R x.2 :: L) := by
  have hc := h.cells
  have hf := h.free
  have hU := unvar_c (mkB l)
  have hd : (mkB l).data.toList = l := rfl
  rw [hd] at hU
  have H := Lib.hid h
  have HU := Lib.hid hU
  clear h hU hd
  cases hu : Pk.unvarL l with
  | none =>
    have e1 : numL most l = none := by unfold numL; rw [hu]; rfl
    have e2 : unvarR l = (0, mkB [], 4) := by unfold unvarR; rw [hu]
    rw [e1]
    rw [e2] at HU
    unfold retU at HU
    clear hu e1 e2
    go_enter Try.func90, Try.ntmps90
    go_wp2_with fail
    refine (HU.out _).mono ?_
    rintro e w1 ⟨rfl, nd, rfl⟩
    go_wp2
    exact ⟨rfl, rfl, H.out.drewN nd⟩
  | some x =>
    obtain ⟨n, r⟩ := x
    have hn := (Pk.var_unvar hu).2
    have e2 : unvarR l = ((n : Int), mkB r, 0) := by unfold unvarR; rw [hu]
    rw [e2] at HU
    unfold retU at HU
    have hcv : IntKind.u64.wrap most = most := IntWalk.u64_in _ (by omega)
    by_cases hgt : most < (n : Int)
    · have e1 : numL most l = none := by unfold numL; rw [hu]; simp; omega
      have hgb : decide (most < (n : Int)) = true := decide_eq_true hgt
      rw [e1]
      clear hu e1 e2 hn
      go_enter Try.func90, Try.ntmps90
      go_wp2_with fail
      refine (HU.out _).mono ?_
      rintro e w1 ⟨rfl, nd, rfl⟩
      go_wp2
      exact ⟨rfl, rfl, H.out.drewN nd⟩
    · have e1 : numL most l = some ((n : Int), r) := by unfold numL; rw [hu]; simp; omega
      have hgb : decide (most < (n : Int)) = false := decide_eq_false hgt
      have hcv2 : IntKind.i64.wrap (n : Int) = (n : Int) := IntWalk.i64_in _ (by omega)
      rw [e1]
      have hgt2 : (n : Int) ≤ 9223372036854775807 := by omega
      clear hu e1 e2 hn hgt
      go_enter Try.func90, Try.ntmps90
      go_wp2_with fail
      refine (HU.out _).mono ?_
      rintro e w1 ⟨rfl, nd, rfl⟩
      go_wp2
      go_returns
      exact ⟨rfl, (H.out.drewN nd).setb 0 _ rfl⟩
theorem num_t {w0 w : World} {L : List HP} (R : Nat) (l : List UInt8) (most : Int) (hm : 0 ≤ most) (hm2 : most ≤ 9223372036854775807) (h : St w0 w (rdr R l :: L)) :
    Calls Try.prog 90 #[.pointer (some ⟨R, 0, none⟩), .int .i64 most] w fun e w' => (e = .panicked formP ∧ numL most l = none ∧ St w0 w' (rdr R l :: L)) ∨ ∃ (x : Int) (r : List UInt8), e = .returned (.int .i64 x) ∧ Hid (numL most l = some (x, r)) ∧ St w0 w' (rdr R r :: L) := by
  have C := num_s R l most hm hm2 h
  cases hn : numL most l with
  | none => rw [hn] at C; exact C.mono fun e w' q => .inl ⟨q.1, rfl, q.2⟩
  | some x => rw [hn] at C; exact C.mono fun e w' q => .inr ⟨x.1, x.2, q.1, Lib.hid rfl, q.2⟩
/-! ### Reading so many -/
structure ManyI {α : Type} (p : List UInt8 → Option (α × List UInt8)) (n : Nat) (l0 : List UInt8) (k : Nat) (acc : List α) (lk : List UInt8) : Prop where
  le : k ≤ n
  len : acc.length = k
  eq : manyP p n l0 = (manyP p (n - k) lk).map fun y => (acc ++ y.1, y.2)
section
variable {α : Type} {p : List UInt8 → Option (α × List UInt8)} {n : Nat} {l0 : List UInt8} {k : Nat} {acc : List α} {lk : List UInt8}
theorem ManyI.start (p : List UInt8 → Option (α × List UInt8)) (n : Nat) (l0 : List UInt8) : ManyI p n l0 0 [] l0 := ⟨Nat.zero_le _, rfl, by simp⟩
theorem ManyI.next (h : ManyI p n l0 k acc lk) (hk : k < n) {x : α} {l' : List UInt8} (hp : p lk = some (x, l')) : ManyI p n l0 (k + 1) (acc ++ [x]) l' := by
  refine ⟨hk, by simp [h.len], ?_⟩
  rw [h.eq, show n - k = (n - (k + 1)) + 1 by omega, manyP, hp]
  simp only [Option.bind_some, Option.map_map]
  congr 1
  funext y
  simp
theorem ManyI.stop (h : ManyI p n l0 k acc lk) (hk : k < n) (hp : p lk = none) : manyP p n l0 = none := by
  rw [h.eq, show n - k = (n - (k + 1)) + 1 by omega, manyP, hp]; rfl
theorem ManyI.fin (h : ManyI p n l0 k acc lk) (hk : k = n) : manyP p n l0 = some (acc, lk) := by
  rw [h.eq, hk, Nat.sub_self, manyP]; simp
end
/-! ### spec -/
def dT : Kd ((Bool × Int × Int × Int × Int) × Int) := Kd.pair (Kd.pair Kd.bool (Kd.pair (Kd.int .i64) (Kd.pair (Kd.int .i64) (Kd.pair (Kd.int .i64) (Kd.int .i64))))) (Kd.int .i64)
def kT : Kd TS := Kd.iso dT (fun t => ((t.always, t.limit, t.window, t.base, t.most), t.probes))
theorem kT_flat : Flat kT := flat_iso (flat_pair (flat_pair flat_bool (flat_pair (flat_int _) (flat_pair (flat_int _) (flat_pair (flat_int _) (flat_int _))))) (flat_int _)) _
theorem R_slice3 {α : Type} {d : Kd α} {e base : Nat} {w : World} {ok : Nat → Prop} {v : Value} {xs : List α} (h : d.R e w base ok v xs) : ∃ A n c, v = .slice A n c := by
  obtain ⟨A, c, he⟩ := Kd.R_slice h
  exact ⟨A, _, c, he⟩
theorem R_len {α : Type} {d : Kd α} {e base : Nat} {w : World} {ok : Nat → Prop} {A : Option Addr} {n c : Nat} {xs : List α} (h : d.R e w base ok (.slice A n c) xs) : n = xs.length := by
  obtain ⟨A, c, he⟩ := Kd.R_slice h
  injection he
theorem info_T : (Try.prog.info? 90).map (fun i => (i.zero, i.size, i.bytes)) = some (some (.agg #[.bool false, .int .i64 0, .int .i64 0, .int .i64 0, .int .i64 0, .int .i64 0]), 6, 48) := by kernel_rfl
def cTl (t : TS) : List Value := [.bool t.always, .int .i64 t.limit, .int .i64 t.window, .int .i64 t.base, .int .i64 t.most, .int .i64 t.probes]
theorem kT_M {w : World} {base : Nat} {ok : Nat → Prop} {x : TS} {cs : List Value} (h : cs = cTl x) : kT.M w base ok x cs := by
  subst h
  exact ⟨[.bool x.always, .int .i64 x.limit, .int .i64 x.window, .int .i64 x.base, .int .i64 x.most], [.int .i64 x.probes], rfl, ⟨[.bool x.always], [.int .i64 x.limit, .int .i64 x.window, .int .i64 x.base, .int .i64 x.most], rfl, rfl, ⟨[.int .i64 x.limit], [.int .i64 x.window, .int .i64 x.base, .int .i64 x.most], rfl, rfl, ⟨[.int .i64 x.window], [.int .i64 x.base, .int .i64 x.most], rfl, rfl, ⟨[.int .i64 x.base], [.int .i64 x.most], rfl, rfl, rfl⟩⟩⟩⟩, rfl⟩
theorem info_int3 : (Try.prog.info? 3).map (fun i => (i.zero, i.size, i.bytes)) = some (some (.int .i64 0), 1, 8) := by kernel_rfl
abbrev rowI (v : Value) (xs : List Int) : HP := rowK (Kd.int .i64) 3 v xs
abbrev rowT (v : Value) (xs : List TS) : HP := rowK kT 90 v xs
theorem St.snd {w0 w : World} {P Q : HP} {L : List HP} (h : St w0 w (P :: Q :: L)) : St w0 w (Q :: P :: L) := h.pick 1
theorem St.drop2 {w0 w : World} {P Q : HP} {L : List HP} (h : St w0 w (P :: Q :: L)) : St w0 w (P :: L) := h.snd.drop
/-- What the reader comes to. -/
def RdPost (w0 : World) (R : Nat) (L : List HP) (o : Option (SP × List UInt8)) (e : Ending) (w' : World) : Prop := match o with
  | none => e = .panicked formP ∧ ∃ r, St w0 w' (rdr R r :: L)
  | some x => ∃ PA pc TA tc, e = .returned (.agg #[.int .i64 x.1.id, .int .i64 x.1.cpu, .int .i64 x.1.mem, .int .i64 x.1.disk, .slice PA x.1.ports.length pc, .slice TA x.1.tasks.length tc]) ∧
      St w0 w' (rowI (.slice PA x.1.ports.length pc) x.1.ports :: rowT (.slice TA x.1.tasks.length tc) x.1.tasks :: rdr R x.2 :: L)
-- WALK
set_option maxHeartbeats 8000000 in
set_option maxRecDepth 100000 in
theorem rspec_s {w0 w : World} {L : List HP} (R : Nat) (l : List UInt8) (h : St w0 w (rdr R l :: L)) :
    Calls Try.prog 73 #[.pointer (some ⟨R, 0, none⟩)] w (RdPost w0 R L (rdS l)) := by
  have s1 : St w0 (w.alloc (Obj.cells #[.int .i64 0, .int .i64 0, .int .i64 0, .int .i64 0, .slice none 0 0, .slice none 0 0] 27)) (rdr R l :: blk w.heap.size #[.int .i64 0, .int .i64 0, .int .i64 0, .int .i64 0, .slice none 0 0, .slice none 0 0] 27 :: L) := (h.alloc #[.int .i64 0, .int .i64 0, .int .i64 0, .int .i64 0, .slice none 0 0, .slice none 0 0] 27).pick 1
  go_enter Try.func73, Try.ntmps73
  go_wp2_with fail
  generalize (w.alloc (Obj.cells #[.int .i64 0, .int .i64 0, .int .i64 0, .int .i64 0, .slice none 0 0, .slice none 0 0] 27)) = wa at *
  generalize w.heap.size = c2 at *
  clear h
  have C := num_s R l 2147483648 (by decide) (by decide) s1
  cases h1 : numL 2147483648 l with
  | none =>
    have er : rdS l = none := by simp only [rdS, listP, h1, Option.bind_some, Option.bind_none]
    rw [h1] at C
    rw [er]
    have HC := Lib.hid C
    clear C h1 er
    refine HC.out.mono ?_
    rintro e_ w_ ⟨rfl, s_⟩
    go_wp2
    exact ⟨rfl, rfl, _, s_.drop2⟩
  | some x =>
  obtain ⟨x1, l1⟩ := x
  rw [h1] at C
  have H1 := Lib.hid h1
  have HC := Lib.hid C
  clear C h1
  refine HC.out.mono ?_
  rintro e_ w1 ⟨rfl, t1⟩
  clear HC s1
  have s2 : St w0 (w1.alloc (Obj.cells #[.int .i64 x1, .int .i64 0, .int .i64 0, .int .i64 0, .slice none 0 0, .slice none 0 0] 27)) (rdr R l1 :: blk w1.heap.size #[.int .i64 x1, .int .i64 0, .int .i64 0, .int .i64 0, .slice none 0 0, .slice none 0 0] 27 :: blk c2 #[.int .i64 0, .int .i64 0, .int .i64 0, .int .i64 0, .slice none 0 0, .slice none 0 0] 27 :: L) := (t1.alloc #[.int .i64 x1, .int .i64 0, .int .i64 0, .int .i64 0, .slice none 0 0, .slice none 0 0] 27).pick 1
  clear t1
  go_wp2_with fail
  generalize (w1.alloc (Obj.cells #[.int .i64 x1, .int .i64 0, .int .i64 0, .int .i64 0, .slice none 0 0, .slice none 0 0] 27)) = v2 at *
  generalize w1.heap.size = c3 at *
  have C := num_s R l1 1099511627776 (by decide) (by decide) s2
  cases h2 : numL 1099511627776 l1 with
  | none =>
    have er : rdS l = none := by simp only [rdS, listP, H1.out, h2, Option.bind_some, Option.bind_none]
    rw [h2] at C
    rw [er]
    have HC := Lib.hid C
    clear C h2 er
    refine HC.out.mono ?_
    rintro e_ w_ ⟨rfl, s_⟩
    go_wp2
    exact ⟨rfl, rfl, _, s_.drop2.drop2⟩
  | some x =>
  obtain ⟨x2, l2⟩ := x
  rw [h2] at C
  have H2 := Lib.hid h2
  have HC := Lib.hid C
  clear C h2
  refine HC.out.mono ?_
  rintro e_ w2 ⟨rfl, t2⟩
  clear HC s2
  have hcS := t2.snd.cells
  have hfS := t2.snd.free
  go_wp2_with fail
  have s3 : St w0 (w2.setCell ⟨c3, 1, none⟩ (.int .i64 x2)) (rdr R l2 :: blk c3 #[.int .i64 x1, .int .i64 x2, .int .i64 0, .int .i64 0, .slice none 0 0, .slice none 0 0] 27 :: blk c2 #[.int .i64 0, .int .i64 0, .int .i64 0, .int .i64 0, .slice none 0 0, .slice none 0 0] 27 :: L) := (t2.snd.setb 1 _ rfl).pick 1
  clear t2 hcS hfS
  generalize (w2.setCell ⟨c3, 1, none⟩ (.int .i64 x2)) = v3 at *
  have C := num_s R l2 1099511627776 (by decide) (by decide) s3
  cases h3 : numL 1099511627776 l2 with
  | none =>
    have er : rdS l = none := by simp only [rdS, listP, H1.out, H2.out, h3, Option.bind_some, Option.bind_none]
    rw [h3] at C
    rw [er]
    have HC := Lib.hid C
    clear C h3 er
    refine HC.out.mono ?_
    rintro e_ w_ ⟨rfl, s_⟩
    go_wp2
    exact ⟨rfl, rfl, _, s_.drop2.drop2⟩
  | some x =>
  obtain ⟨x3, l3⟩ := x
  rw [h3] at C
  have H3 := Lib.hid h3
  have HC := Lib.hid C
  clear C h3
  refine HC.out.mono ?_
  rintro e_ w3 ⟨rfl, t3⟩
  clear HC s3
  have hcS := t3.snd.cells
  have hfS := t3.snd.free
  go_wp2_with fail
  have s4 : St w0 (w3.setCell ⟨c3, 2, none⟩ (.int .i64 x3)) (rdr R l3 :: blk c3 #[.int .i64 x1, .int .i64 x2, .int .i64 x3, .int .i64 0, .slice none 0 0, .slice none 0 0] 27 :: blk c2 #[.int .i64 0, .int .i64 0, .int .i64 0, .int .i64 0, .slice none 0 0, .slice none 0 0] 27 :: L) := (t3.snd.setb 2 _ rfl).pick 1
  clear t3 hcS hfS
  generalize (w3.setCell ⟨c3, 2, none⟩ (.int .i64 x3)) = v4 at *
  have C := num_s R l3 1099511627776 (by decide) (by decide) s4
  cases h4 : numL 1099511627776 l3 with
  | none =>
    have er : rdS l = none := by simp only [rdS, listP, H1.out, H2.out, H3.out, h4, Option.bind_some, Option.bind_none]
    rw [h4] at C
    rw [er]
    have HC := Lib.hid C
    clear C h4 er
    refine HC.out.mono ?_
    rintro e_ w_ ⟨rfl, s_⟩
    go_wp2
    exact ⟨rfl, rfl, _, s_.drop2.drop2⟩
  | some x =>
  obtain ⟨x4, l4⟩ := x
  rw [h4] at C
  have H4 := Lib.hid h4
  have HC := Lib.hid C
  clear C h4
  refine HC.out.mono ?_
  rintro e_ w4 ⟨rfl, t4⟩
  clear HC s4
  have hcS := t4.snd.cells
  have hfS := t4.snd.free
  go_wp2_with fail
  have s5 : St w0 (w4.setCell ⟨c3, 3, none⟩ (.int .i64 x4)) (rdr R l4 :: blk c3 #[.int .i64 x1, .int .i64 x2, .int .i64 x3, .int .i64 x4, .slice none 0 0, .slice none 0 0] 27 :: blk c2 #[.int .i64 0, .int .i64 0, .int .i64 0, .int .i64 0, .slice none 0 0, .slice none 0 0] 27 :: L) := (t4.snd.setb 3 _ rfl).pick 1
  clear t4 hcS hfS
  generalize (w4.setCell ⟨c3, 3, none⟩ (.int .i64 x4)) = v5 at *
  have C := num_s R l4 8 (by decide) (by decide) s5
  cases h5 : numL 8 l4 with
  | none =>
    have er : rdS l = none := by simp only [rdS, listP, H1.out, H2.out, H3.out, H4.out, h5, Option.bind_some, Option.bind_none]
    rw [h5] at C
    rw [er]
    have HC := Lib.hid C
    clear C h5 er
    refine HC.out.mono ?_
    rintro e_ w_ ⟨rfl, s_⟩
    go_wp2
    exact ⟨rfl, rfl, _, s_.drop2.drop2⟩
  | some x =>
  obtain ⟨x5, l5⟩ := x
  rw [h5] at C
  have H5 := Lib.hid h5
  have HC := Lib.hid C
  clear C h5
  refine HC.out.mono ?_
  rintro e_ w5 ⟨rfl, t5⟩
  clear HC s5
  obtain ⟨⟨b5, b5'⟩, -⟩ := (num_codec (most := 8) (by decide) _ _ _).1 H5.out
  obtain ⟨n, rfl⟩ := Int.eq_ofNat_of_zero_le b5
  have s6 : St w0 w5 (rowI (.slice none 0 0) [] :: rdr R l5 :: blk c3 #[.int .i64 x1, .int .i64 x2, .int .i64 x3, .int .i64 x4, .slice none 0 0, .slice none 0 0] 27 :: blk c2 #[.int .i64 0, .int .i64 0, .int .i64 0, .int .i64 0, .slice none 0 0, .slice none 0 0] 27 :: L) := t5.rowKNil (flat_int _)
  clear t5
  go_wp2_with fail
  go_loopw [22] (fun i W => ∃ (k : Nat) (acc : List Int) (lk : List UInt8) (v : Value), i = .int .i64 k ∧ ManyI (numL 65535) n l5 k acc lk ∧ St w0 W (rowI v acc :: rdr R lk :: blk c3 #[.int .i64 x1, .int .i64 x2, .int .i64 x3, .int .i64 x4, v, .slice none 0 0] 27 :: blk c2 #[.int .i64 0, .int .i64 0, .int .i64 0, .int .i64 0, .slice none 0 0, .slice none 0 0] 27 :: L)) (fun i _ => n - (intOf i).toNat)
  case atStart => exact ⟨0, [], l5, _, rfl, ManyI.start _ _ _, s6⟩
  case round =>
    clear s6
    obtain ⟨k, acc, lk, v, rfl, hM, s⟩ := hrel
    have hkn := hM.le
    have hal := hM.len
    by_cases hlt : k < n
    · have HM := Lib.hid hM
      have HAL := Lib.hid hal
      clear hM hal
      have hcS := (s.pick 2).cells
      have hfS := (s.pick 2).free
      have C := num_t R lk 65535 (by decide) (by decide) s.snd
      have C' := num_t R lk 65535 (by decide) (by decide) s.drew.snd
      have HC := Lib.hid C
      have HC' := Lib.hid C'
      clear C C' s
      go_wp2_with fail
      go_region_law (first | (refine row_append_step (flat_int .i64) (.tmp 25) (.tmp 28) 24 (.int .i64 0) 8 v acc [x6] (some ⟨w_.heap.size, 0, none⟩) 1 1 (S_.out.snd.more (by go_grown)) rfl rfl Try.underlying24 info_int3 rfl (by decide) (by decide) (by simp [Act.eval, Act.put]) (by simp [Act.eval, Act.put]) (reads_lit1 (Rr := fun x cs => cs = [Value.int .i64 x]) (vnewAt rfl) rfl rfl) (fun _ _ h => h) (by have := HAL.out; simp; omega) ?_; intro v7 w7 s7; obtain ⟨A7, n7, c7, rfl⟩ := R_slice3 s7.rowKR; have hcS3 := (s7.pick 2).cells; have hfS3 := (s7.pick 2).free; have S7 := Lib.hid s7; clear s7) | (go_simp; go_at_call 90; (first | (with_reducible refine HC.out.mono ?_) | (with_reducible refine HC'.out.mono ?_)); rintro e_ w_ (⟨rfl, hn, s_⟩ | ⟨x6, l6, rfl, hn, s_⟩); (focus (have er : rdS l = none := by simp only [rdS, listP, H1.out, H2.out, H3.out, H4.out, H5.out, Option.bind_some, Option.bind_none, Int.toNat_natCast, HM.out.stop hlt hn]) <;> (have hp : RdPost w0 R L (rdS l) (.panicked formP) w_ := er ▸ ⟨rfl, _, s_.drop2.drop2.drop2⟩) <;> exact ⟨rfl, hp⟩); have hcS2 := (s_.pick 2).cells; have hfS2 := (s_.pick 2).free; have hl2 := vlt (s_.pick 2).at0; have hl3 := Nat.le_of_lt hl2; have S_ := Lib.hid s_; clear s_))
      all_goals (
        have s9 : St w0 (w7.setCell ⟨c3, 4, none⟩ (.slice A7 n7 c7)) (rowI (.slice A7 n7 c7) (acc ++ [x6]) :: rdr R l6 :: blk c3 #[.int .i64 x1, .int .i64 x2, .int .i64 x3, .int .i64 x4, .slice A7 n7 c7, .slice none 0 0] 27 :: blk c2 #[.int .i64 0, .int .i64 0, .int .i64 0, .int .i64 0, .slice none 0 0, .slice none 0 0] 27 :: L) := ((((S7.out.pick 2).setb 4 _ rfl).pick 1).pick 2).pick 1
        clear S7 hcS3 hfS3 S_ HC HC'
        go_wp2
        go_roundw
        case rel => exact ⟨k + 1, acc ++ [x6], l6, _, by go_num, HM.out.next hlt hn.out, s9⟩
        case measure => simp [intOf]; omega)
    · obtain ⟨PA, pn, pc, rfl⟩ := R_slice3 s.rowKR
      have hm := hM.fin (by omega)
      have HM := Lib.hid hm
      clear hM hal hm
      have C := num_t R lk 4 (by decide) (by decide) s.snd
      have HC := Lib.hid C
      clear C s
      go_wp2_with fail
      refine HC.out.mono ?_
      rintro e_ w6 (⟨rfl, hn, s_⟩ | ⟨x6, l6, rfl, hn, s_⟩)
      · have er : rdS l = none := by simp only [rdS, listP, H1.out, H2.out, H3.out, H4.out, H5.out, Option.bind_some, Option.bind_none, Int.toNat_natCast, HM.out, hn]
        have HP := Lib.hid (show RdPost w0 R L (rdS l) (.panicked formP) w6 from er ▸ ⟨rfl, _, s_.drop2.drop2.drop2⟩)
        clear er hn s_ HC
        go_wp2
        exact ⟨rfl, HP.out⟩
      have H6 := hn
      obtain ⟨⟨b6, b6'⟩, -⟩ := (num_codec (most := 4) (by decide) _ _ _).1 H6.out
      obtain ⟨m, rfl⟩ := Int.eq_ofNat_of_zero_le b6
      clear HC hn
      have t6 : St w0 w6 (rowT (.slice none 0 0) [] :: rdr R l6 :: rowI (.slice PA pn pc) acc :: blk c3 #[.int .i64 x1, .int .i64 x2, .int .i64 x3, .int .i64 x4, .slice PA pn pc, .slice none 0 0] 27 :: blk c2 #[.int .i64 0, .int .i64 0, .int .i64 0, .int .i64 0, .slice none 0 0, .slice none 0 0] 27 :: L) := s_.rowKNil kT_flat
      clear s_
      go_wp2_with fail
      go_loopw [4, 34] (fun _ i W => ∃ (k : Nat) (ac : List TS) (lq : List UInt8) (v : Value), i = .int .i64 k ∧ ManyI rdT m l6 k ac lq ∧ St w0 W (rowT v ac :: rdr R lq :: rowI (.slice PA pn pc) acc :: blk c3 #[.int .i64 x1, .int .i64 x2, .int .i64 x3, .int .i64 x4, .slice PA pn pc, v] 27 :: blk c2 #[.int .i64 0, .int .i64 0, .int .i64 0, .int .i64 0, .slice none 0 0, .slice none 0 0] 27 :: L)) (fun _ i _ => m - (intOf i).toNat)
      case atStart => exact ⟨0, [], l6, _, rfl, ManyI.start _ _ _, t6⟩
      case round =>
        clear t6 hkn hlt
        obtain ⟨q, ac, lq, v, rfl, hM, s⟩ := hrel
        have hkn := hM.le
        have hal := hM.len
        obtain ⟨TA, tn, tc, rfl⟩ := R_slice3 s.rowKR
        by_cases hlt : q < m
        · have HN := Lib.hid hM
          have HAL := Lib.hid hal
          clear hM hal
          have s0 : St w0 (wr.alloc (Obj.cells #[.bool false, .int .i64 0, .int .i64 0, .int .i64 0, .int .i64 0, .int .i64 0] 90)) (rdr R lq :: blk wr.heap.size #[.bool false, .int .i64 0, .int .i64 0, .int .i64 0, .int .i64 0, .int .i64 0] 90 :: rowT (.slice TA tn tc) ac :: rowI (.slice PA pn pc) acc :: blk c3 #[.int .i64 x1, .int .i64 x2, .int .i64 x3, .int .i64 x4, .slice PA pn pc, .slice TA tn tc] 27 :: blk c2 #[.int .i64 0, .int .i64 0, .int .i64 0, .int .i64 0, .slice none 0 0, .slice none 0 0] 27 :: L) := ((s.alloc #[.bool false, .int .i64 0, .int .i64 0, .int .i64 0, .int .i64 0, .int .i64 0] 90).pick 2).pick 0
          clear s
          go_wp2_with fail
          generalize (wr.alloc (Obj.cells #[.bool false, .int .i64 0, .int .i64 0, .int .i64 0, .int .i64 0, .int .i64 0] 90)) = q0 at *
          generalize wr.heap.size = B at *
          have C := num_t R lq 1 (by decide) (by decide) s0
          have HC := Lib.hid C
          clear C s0
          refine HC.out.mono ?_
          rintro e_ p0 (⟨rfl, hn, s_⟩ | ⟨y0, m0, rfl, G0, s_⟩)
          · have e0 : rdT lq = none := by simp only [rdT, Option.bind_some, Option.bind_none, hn]
            have er : rdS l = none := by simp only [rdS, listP, H1.out, H2.out, H3.out, H4.out, H5.out, Option.bind_some, Option.bind_none, Int.toNat_natCast, HM.out, H6.out, HN.out.stop hlt e0]
            have HP := Lib.hid (show RdPost w0 R L (rdS l) (.panicked formP) p0 from er ▸ ⟨rfl, _, s_.drop2.drop2.drop2.drop2.drop2⟩)
            clear er e0 hn s_ HC
            go_wp2
            exact ⟨rfl, HP.out⟩
          clear HC
          have hcB := s_.snd.cells
          have hfB := s_.snd.free
          go_wp2_with fail
          have s1 : St w0 (p0.setCell ⟨B, 0, none⟩ (.bool (y0 == 1))) (rdr R m0 :: blk B #[.bool (y0 == 1), .int .i64 0, .int .i64 0, .int .i64 0, .int .i64 0, .int .i64 0] 90 :: rowT (.slice TA tn tc) ac :: rowI (.slice PA pn pc) acc :: blk c3 #[.int .i64 x1, .int .i64 x2, .int .i64 x3, .int .i64 x4, .slice PA pn pc, .slice TA tn tc] 27 :: blk c2 #[.int .i64 0, .int .i64 0, .int .i64 0, .int .i64 0, .slice none 0 0, .slice none 0 0] 27 :: L) := (s_.snd.setb 0 _ rfl).pick 1
          clear s_ hcB hfB
          generalize (p0.setCell ⟨B, 0, none⟩ (.bool (y0 == 1))) = q1 at *
          have C := num_t R m0 8 (by decide) (by decide) s1
          have HC := Lib.hid C
          clear C s1
          refine HC.out.mono ?_
          rintro e_ p1 (⟨rfl, hn, s_⟩ | ⟨y1, m1, rfl, G1, s_⟩)
          · have e0 : rdT lq = none := by simp only [rdT, G0.out, Option.bind_some, Option.bind_none, hn]
            have er : rdS l = none := by simp only [rdS, listP, H1.out, H2.out, H3.out, H4.out, H5.out, Option.bind_some, Option.bind_none, Int.toNat_natCast, HM.out, H6.out, HN.out.stop hlt e0]
            have HP := Lib.hid (show RdPost w0 R L (rdS l) (.panicked formP) p1 from er ▸ ⟨rfl, _, s_.drop2.drop2.drop2.drop2.drop2⟩)
            clear er e0 hn s_ HC
            go_wp2
            exact ⟨rfl, HP.out⟩
          clear HC
          have hcB := s_.snd.cells
          have hfB := s_.snd.free
          go_wp2_with fail
          have s2 : St w0 (p1.setCell ⟨B, 1, none⟩ (.int .i64 y1)) (rdr R m1 :: blk B #[.bool (y0 == 1), .int .i64 y1, .int .i64 0, .int .i64 0, .int .i64 0, .int .i64 0] 90 :: rowT (.slice TA tn tc) ac :: rowI (.slice PA pn pc) acc :: blk c3 #[.int .i64 x1, .int .i64 x2, .int .i64 x3, .int .i64 x4, .slice PA pn pc, .slice TA tn tc] 27 :: blk c2 #[.int .i64 0, .int .i64 0, .int .i64 0, .int .i64 0, .slice none 0 0, .slice none 0 0] 27 :: L) := (s_.snd.setb 1 _ rfl).pick 1
          clear s_ hcB hfB
          generalize (p1.setCell ⟨B, 1, none⟩ (.int .i64 y1)) = q2 at *
          have C := num_t R m1 1099511627776 (by decide) (by decide) s2
          have HC := Lib.hid C
          clear C s2
          refine HC.out.mono ?_
          rintro e_ p2 (⟨rfl, hn, s_⟩ | ⟨y2, m2, rfl, G2, s_⟩)
          · have e0 : rdT lq = none := by simp only [rdT, G0.out, G1.out, Option.bind_some, Option.bind_none, hn]
            have er : rdS l = none := by simp only [rdS, listP, H1.out, H2.out, H3.out, H4.out, H5.out, Option.bind_some, Option.bind_none, Int.toNat_natCast, HM.out, H6.out, HN.out.stop hlt e0]
            have HP := Lib.hid (show RdPost w0 R L (rdS l) (.panicked formP) p2 from er ▸ ⟨rfl, _, s_.drop2.drop2.drop2.drop2.drop2⟩)
            clear er e0 hn s_ HC
            go_wp2
            exact ⟨rfl, HP.out⟩
          clear HC
          have hcB := s_.snd.cells
          have hfB := s_.snd.free
          go_wp2_with fail
          have s3 : St w0 (p2.setCell ⟨B, 2, none⟩ (.int .i64 y2)) (rdr R m2 :: blk B #[.bool (y0 == 1), .int .i64 y1, .int .i64 y2, .int .i64 0, .int .i64 0, .int .i64 0] 90 :: rowT (.slice TA tn tc) ac :: rowI (.slice PA pn pc) acc :: blk c3 #[.int .i64 x1, .int .i64 x2, .int .i64 x3, .int .i64 x4, .slice PA pn pc, .slice TA tn tc] 27 :: blk c2 #[.int .i64 0, .int .i64 0, .int .i64 0, .int .i64 0, .slice none 0 0, .slice none 0 0] 27 :: L) := (s_.snd.setb 2 _ rfl).pick 1
          clear s_ hcB hfB
          generalize (p2.setCell ⟨B, 2, none⟩ (.int .i64 y2)) = q3 at *
          have C := num_t R m2 1099511627776 (by decide) (by decide) s3
          have HC := Lib.hid C
          clear C s3
          refine HC.out.mono ?_
          rintro e_ p3 (⟨rfl, hn, s_⟩ | ⟨y3, m3, rfl, G3, s_⟩)
          · have e0 : rdT lq = none := by simp only [rdT, G0.out, G1.out, G2.out, Option.bind_some, Option.bind_none, hn]
            have er : rdS l = none := by simp only [rdS, listP, H1.out, H2.out, H3.out, H4.out, H5.out, Option.bind_some, Option.bind_none, Int.toNat_natCast, HM.out, H6.out, HN.out.stop hlt e0]
            have HP := Lib.hid (show RdPost w0 R L (rdS l) (.panicked formP) p3 from er ▸ ⟨rfl, _, s_.drop2.drop2.drop2.drop2.drop2⟩)
            clear er e0 hn s_ HC
            go_wp2
            exact ⟨rfl, HP.out⟩
          clear HC
          have hcB := s_.snd.cells
          have hfB := s_.snd.free
          go_wp2_with fail
          have s4 : St w0 (p3.setCell ⟨B, 3, none⟩ (.int .i64 y3)) (rdr R m3 :: blk B #[.bool (y0 == 1), .int .i64 y1, .int .i64 y2, .int .i64 y3, .int .i64 0, .int .i64 0] 90 :: rowT (.slice TA tn tc) ac :: rowI (.slice PA pn pc) acc :: blk c3 #[.int .i64 x1, .int .i64 x2, .int .i64 x3, .int .i64 x4, .slice PA pn pc, .slice TA tn tc] 27 :: blk c2 #[.int .i64 0, .int .i64 0, .int .i64 0, .int .i64 0, .slice none 0 0, .slice none 0 0] 27 :: L) := (s_.snd.setb 3 _ rfl).pick 1
          clear s_ hcB hfB
          generalize (p3.setCell ⟨B, 3, none⟩ (.int .i64 y3)) = q4 at *
          have C := num_t R m3 1099511627776 (by decide) (by decide) s4
          have HC := Lib.hid C
          clear C s4
          refine HC.out.mono ?_
          rintro e_ p4 (⟨rfl, hn, s_⟩ | ⟨y4, m4, rfl, G4, s_⟩)
          · have e0 : rdT lq = none := by simp only [rdT, G0.out, G1.out, G2.out, G3.out, Option.bind_some, Option.bind_none, hn]
            have er : rdS l = none := by simp only [rdS, listP, H1.out, H2.out, H3.out, H4.out, H5.out, Option.bind_some, Option.bind_none, Int.toNat_natCast, HM.out, H6.out, HN.out.stop hlt e0]
            have HP := Lib.hid (show RdPost w0 R L (rdS l) (.panicked formP) p4 from er ▸ ⟨rfl, _, s_.drop2.drop2.drop2.drop2.drop2⟩)
            clear er e0 hn s_ HC
            go_wp2
            exact ⟨rfl, HP.out⟩
          clear HC
          have hcB := s_.snd.cells
          have hfB := s_.snd.free
          go_wp2_with fail
          have s5 : St w0 (p4.setCell ⟨B, 4, none⟩ (.int .i64 y4)) (rdr R m4 :: blk B #[.bool (y0 == 1), .int .i64 y1, .int .i64 y2, .int .i64 y3, .int .i64 y4, .int .i64 0] 90 :: rowT (.slice TA tn tc) ac :: rowI (.slice PA pn pc) acc :: blk c3 #[.int .i64 x1, .int .i64 x2, .int .i64 x3, .int .i64 x4, .slice PA pn pc, .slice TA tn tc] 27 :: blk c2 #[.int .i64 0, .int .i64 0, .int .i64 0, .int .i64 0, .slice none 0 0, .slice none 0 0] 27 :: L) := (s_.snd.setb 4 _ rfl).pick 1
          clear s_ hcB hfB
          generalize (p4.setCell ⟨B, 4, none⟩ (.int .i64 y4)) = q5 at *
          have C := num_t R m4 1000 (by decide) (by decide) s5
          have HC := Lib.hid C
          clear C s5
          refine HC.out.mono ?_
          rintro e_ p5 (⟨rfl, hn, s_⟩ | ⟨y5, m5, rfl, G5, s_⟩)
          · have e0 : rdT lq = none := by simp only [rdT, G0.out, G1.out, G2.out, G3.out, G4.out, Option.bind_some, Option.bind_none, hn]
            have er : rdS l = none := by simp only [rdS, listP, H1.out, H2.out, H3.out, H4.out, H5.out, Option.bind_some, Option.bind_none, Int.toNat_natCast, HM.out, H6.out, HN.out.stop hlt e0]
            have HP := Lib.hid (show RdPost w0 R L (rdS l) (.panicked formP) p5 from er ▸ ⟨rfl, _, s_.drop2.drop2.drop2.drop2.drop2⟩)
            clear er e0 hn s_ HC
            go_wp2
            exact ⟨rfl, HP.out⟩
          clear HC
          have hcB := s_.snd.cells
          have hfB := s_.snd.free
          have s6 : St w0 (p5.setCell ⟨B, 5, none⟩ (.int .i64 y5)) (rdr R m5 :: blk B #[.bool (y0 == 1), .int .i64 y1, .int .i64 y2, .int .i64 y3, .int .i64 y4, .int .i64 y5] 90 :: rowT (.slice TA tn tc) ac :: rowI (.slice PA pn pc) acc :: blk c3 #[.int .i64 x1, .int .i64 x2, .int .i64 x3, .int .i64 x4, .slice PA pn pc, .slice TA tn tc] 27 :: blk c2 #[.int .i64 0, .int .i64 0, .int .i64 0, .int .i64 0, .slice none 0 0, .slice none 0 0] 27 :: L) := (s_.snd.setb 5 _ rfl).pick 1
          have hB3 : ¬ c3 = B := by
            rintro rfl
            obtain ⟨S, T, ⟨-, rfl⟩, ⟨-, rfl⟩, hd, -⟩ := ((s6.pick 1).pick 4).two
            exact hd _ rfl rfl
          have hc3 := (s_.pick 4).cells
          have hf3 := (s_.pick 4).free
          clear s_
          have S6 := Lib.hid s6
          clear s6
          go_wp2_with (at_builtin; (refine row_append kT_flat _ _ 25 (.agg #[.bool false, .int .i64 0, .int .i64 0, .int .i64 0, .int .i64 0, .int .i64 0]) 48 (.slice TA tn tc) ac [(⟨y0 == 1, y1, y2, y3, y4, y5⟩ : TS)] (some ⟨p5.heap.size, 0, none⟩) 1 1 ((S6.out.pick 2).more (by go_grown)) rfl rfl Try.underlying25 info_T rfl (by decide) (by decide) rfl rfl (reads_lit1 (Rr := fun x cs => cs = cTl x) (vnewAt (by simp)) rfl rfl) (fun x cs h => kT_M h) (by have := HAL.out; simp; omega) ?_); intro v8 w8 s8; obtain ⟨A8, n8, c8, rfl⟩ := R_slice3 s8.rowKR; have hc8 := (s8.pick 4).cells; have hf8 := (s8.pick 4).free; have S8 := Lib.hid s8; clear s8)
          have s9 := ((((((((S8.out.pick 4).setb 5 (.slice A8 n8 c8) rfl).pick 3).drop).pick 3).pick 3).pick 3))
          have hd : rdT lq = some ((⟨y0 == 1, y1, y2, y3, y4, y5⟩ : TS), m5) := by simp only [rdT, G0.out, G1.out, G2.out, G3.out, G4.out, G5.out, Option.bind_some]; rfl
          have HD := Lib.hid hd
          clear S8 hc8 hf8 S6 hc3 hf3 hcB hfB hd
          go_roundw
          case rel => exact ⟨q + 1, ac ++ [(⟨y0 == 1, y1, y2, y3, y4, y5⟩ : TS)], m5, _, by go_num, HN.out.next hlt HD.out, s9⟩
          case measure => simp [intOf]; omega
        · have hm := hM.fin (by omega)
          have er : rdS l = some (⟨x1, x2, x3, x4, acc, ac⟩, lq) := by simp only [rdS, listP, H1.out, H2.out, H3.out, H4.out, H5.out, Option.bind_some, Option.bind_none, Int.toNat_natCast, HM.out, H6.out, hm]
          have hpn := R_len (s.pick 2).rowKR
          have htn := R_len s.rowKR
          have hcS := (s.pick 3).cells
          have hcR := (s.pick 4).cells
          have hfR := (s.pick 4).free
          have HER := Lib.hid er
          have HPN := Lib.hid hpn
          have HTN := Lib.hid htn
          have SS := Lib.hid s
          clear hM hal hm er hpn htn s
          go_wp2
          have s8 : St w0 ((((((wr.setCell ⟨c2, 0, none⟩ (.int .i64 x1)).setCell ⟨c2, 1, none⟩ (.int .i64 x2)).setCell ⟨c2, 2, none⟩ (.int .i64 x3)).setCell ⟨c2, 3, none⟩ (.int .i64 x4)).setCell ⟨c2, 4, none⟩ (.slice PA pn pc)).setCell ⟨c2, 5, none⟩ (.slice TA tn tc)) (blk c2 #[.int .i64 x1, .int .i64 x2, .int .i64 x3, .int .i64 x4, .slice PA pn pc, .slice TA tn tc] 27 :: rowT (.slice TA tn tc) ac :: rdr R lq :: rowI (.slice PA pn pc) acc :: blk c3 #[.int .i64 x1, .int .i64 x2, .int .i64 x3, .int .i64 x4, .slice PA pn pc, .slice TA tn tc] 27 :: L) := ((((((SS.out.pick 4).setb 0 (.int .i64 x1) rfl).setb 1 (.int .i64 x2) rfl).setb 2 (.int .i64 x3) rfl).setb 3 (.int .i64 x4) rfl).setb 4 (.slice PA pn pc) rfl).setb 5 (.slice TA tn tc) rfl
          clear SS hcR hfR hcS
          generalize ((((((wr.setCell ⟨c2, 0, none⟩ (.int .i64 x1)).setCell ⟨c2, 1, none⟩ (.int .i64 x2)).setCell ⟨c2, 2, none⟩ (.int .i64 x3)).setCell ⟨c2, 3, none⟩ (.int .i64 x4)).setCell ⟨c2, 4, none⟩ (.slice PA pn pc)).setCell ⟨c2, 5, none⟩ (.slice TA tn tc)) = W at *
          have hcR := s8.cells
          refine bodyPost_ret (v := .agg #[.int .i64 x1, .int .i64 x2, .int .i64 x3, .int .i64 x4, .slice PA pn pc, .slice TA tn tc]) (by simp [results, Try.results73, go_sem, hcR]) rfl ?_
          have s9 : St w0 W (rowI (.slice PA pn pc) acc :: rowT (.slice TA tn tc) ac :: rdr R lq :: L) := ((s8.drop.pick 3).drop).pick 2
          clear s8 hcR
          rw [HPN.out, HTN.out] at s9 ⊢
          rw [HER.out]
          exact ⟨PA, pc, TA, tc, rfl, s9⟩
end Go.Proofs.YtkhcdichdnbcmaaR
