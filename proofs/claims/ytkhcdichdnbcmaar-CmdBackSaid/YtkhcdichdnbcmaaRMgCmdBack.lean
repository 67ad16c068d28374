import Derived.Test.YtkhcdichdnbcmaaRSep
import Derived.Test.YtkhcdichdnbcmaaRSepB
import Derived.Test.YtkhcdichdnbcmaaRSepK
import Derived.Test.YtkhcdichdnbcmaaRProg
import Derived.Laws.CopyRow
import Derived.Test.YtkhcdichdnbcmaaRBase
import Derived.Test.YtkhcdichdnbcmaaRWWords
import Derived.Test.YtkhcdichdnbcmaaRC3
import Derived.Deep.Cut
import Derived.Test.YtkhcdichdnbcmaaRC4
import Derived.Test.YtkhcdichdnbcmaaRC5
import Derived.Laws.MakeOwn
import Derived.Laws.OwnMore
import Derived.Test.YtkhcdichdnbcmaaROpen
import Derived.Deep.CutRange
import Derived.Deep.RegionWith
import Derived.Test.YtkhcdichdnbcmaaRRows
import Derived.WalkKit
import Derived.ProofKit
import Derived.OpenShut
import Derived.ShutString
import Derived.ChangeOld
import Derived.Below
import Derived.SizedLaws
section
/- A store of a whole struct as one step of the walk, over objects. -/
namespace Go.Proofs.YtkhcdichdnbcmaaR
open Go.RowKit
set_option linter.unusedVariables false
set_option linter.unusedSimpArgs false
theorem run_storeN {P : Program} {o : Oper} {ev : Operand → Value} (w : World) (x v : Operand) (t : TypeId) (hop : o.op = Op.store t x v) (b off : Nat) (vs : Array Value) {cs cs' : Array Value} {tb : TypeId} (hsz : ∀ W : World, (sizeOf t).run P W = .ok vs.size W)
    (hx : ev x = .pointer (some ⟨b, off, none⟩)) (hv : ev v = .agg vs) (hb : w.heap[b]? = some (.cells cs tb (0, 0))) (hfit : off + vs.size ≤ cs.size) (h1 : ∀ v ∈ vs.toList, v.oneCell' = true)
    (he : (cs.toList.take off ++ vs.toList ++ cs.toList.drop (off + vs.size)).toArray = cs') : (execOp ev o).run P w = Result.ok Next.skip (w.setRow b cs') := by
  have hst := run_storeCells_at P b off tb vs.toList 0 cs w hb (by simpa using hfit) h1
  simp only [Nat.add_zero, Array.length_toList] at hst
  rw [he] at hst
  simp [execOp, hop, hx, hv, hsz, Result.andThen]
  simp [Instr.storeAt, Instr.sureAddr, storeVar, hsz, Value.cells, Result.andThen, hst]
theorem run_storeM {P : Program} {o : Oper} {ev : Operand → Value} (w : World) (x v : Operand) (t : TypeId) (hop : o.op = Op.store t x v) (b off : Nat) (vs : Array Value) {nv : Nat} {cs cs' : Array Value} {tb : TypeId} (hsz : ∀ W : World, (sizeOf t).run P W = .ok nv W) (hn : vs.size = nv)
    (hx : ev x = .pointer (some ⟨b, off, none⟩)) (hv : ev v = .agg vs) (hb : w.heap[b]? = some (.cells cs tb (0, 0))) (hfit : off + nv ≤ cs.size) (h1 : ∀ v ∈ vs.toList, v.oneCell' = true)
    (he : (cs.toList.take off ++ vs.toList ++ cs.toList.drop (off + nv)).toArray = cs') : (execOp ev o).run P w = Result.ok Next.skip (w.setRow b cs') := by
  subst hn
  exact run_storeN w x v t hop b off vs hsz hx hv hb hfit h1 he
theorem Chg.setRow {b : Nat} {w : World} (cs : Array Value) : Chg (fun k => k = b) w (w.setRow b cs) :=
  ⟨rfl, rfl, rfl, by simp [World.setRow], fun k hk _ => setRow_other w b k _ hk⟩
theorem St.setRow {w0 w : World} {L : List HP} {b : Nat} {cs : Array Value} {t : Nat} (h : St w0 w (Go.Proofs.YtkhcdichdnbcmaaR.blk b cs t :: L)) (cs' : Array Value) : St w0 (w.setRow b cs') (Go.Proofs.YtkhcdichdnbcmaaR.blk b cs' t :: L) := by
  obtain ⟨S, ⟨z, rfl⟩, hh⟩ := h.one
  exact hh (Chg.setRow cs') (blk_loc _ _ _) ⟨setRow_heap w b cs cs' t _ z, rfl⟩ (fun k _ hk => hk)
theorem wpList_storeSt {P : Program} {ops : Array Oper} {rest : List Oper} {o : Oper} {a : Act} {Q : Exit → Act → World → Prop} {w0 w : World} {L : List HP} {b : Nat} {cs : Array Value} {tb : Nat} (h : St w0 w (Go.Proofs.YtkhcdichdnbcmaaR.blk b cs tb :: L)) (hg : o.guard = none) (x v : Operand) (t : TypeId) (hop : o.op = Op.store t x v) (off : Nat) (vs cs' : Array Value)
    {nv : Nat} (hsz : ∀ W : World, (sizeOf t).run P W = .ok nv W) (hn : vs.size = nv) (hx : a.eval x = .pointer (some ⟨b, off, none⟩)) (hv : a.eval v = .agg vs) (hfit : off + nv ≤ cs.size) (h1 : ∀ v ∈ vs.toList, v.oneCell' = true)
    (he : (cs.toList.take off ++ vs.toList ++ cs.toList.drop (off + nv)).toArray = cs')
    (hK : ∀ w' : World, St w0 w' (Go.Proofs.YtkhcdichdnbcmaaR.blk b cs' tb :: L) → wpList P ops Q rest (a.put o.dst undef) w') : wpList P ops Q (o :: rest) a w := by
  subst hn
  refine wpList_plain hg fun K' hK' => ?_
  unfold Oper.wp
  show Oper.upon P o a K' Q ((execOp a.eval o).run P w)
  rw [run_storeN w x v t hop b off vs hsz hx hv h.at0 hfit h1 he]
  simp only [Oper.upon]
  exact hK' _ _ (hK _ (h.setRow cs'))
theorem size_spec (W : World) : (sizeOf 27).run Try.prog W = .ok 6 W := by kernel_rfl
theorem size_cmd (W : World) : (sizeOf 29).run Try.prog W = .ok 9 W := by kernel_rfl
theorem size_rec (W : World) : (sizeOf 35).run Try.prog W = .ok 15 W := by kernel_rfl
end Go.Proofs.YtkhcdichdnbcmaaR
end

section
/- A row of the law's own of which nothing is told any more but that one may write to it. -/
namespace Go.Proofs.YtkhcdichdnbcmaaR
open Go.RowKit Go.Proofs.YtkhcdichdnbcmaaRW.PrintWords
set_option linter.unusedVariables false
/-- A row to write to. -/
def loose (e m : Nat) (v : Value) : HP := fun w S => ((m = 0 ∧ v.ownBlock = none) ∨ ∃ g n cap cur, v = .slice (some ⟨g, 0, none⟩) n cap ∧ w.heap[g]? = some (.cells cur e (0, 0)) ∧ m ≤ cur.size) ∧ S = fun k => v.ownBlock = some k
theorem loose_loc (e m : Nat) (v : Value) : Loc (loose e m v) where
  keep := fun ⟨h, e⟩ k => by
    refine ⟨?_, e⟩
    rcases h with h | ⟨g, n, cap, cur, rfl, h1, h2⟩
    · exact .inl h
    · exact .inr ⟨g, n, cap, cur, rfl, (k g (by subst e; rfl)).trans h1, h2⟩
  lt := fun {w S k} ⟨h, e⟩ hk => by
    subst e
    rcases h with h | ⟨g, n, cap, cur, rfl, h1, h2⟩
    · rw [h.2] at hk; cases hk
    · injection hk with hk; subst hk; exact vlt h1
theorem St.loosen {α : Type} {d : Kd α} {e : Nat} {w0 w : World} {L : List HP} {v : Value} {xs : List α} (h : St w0 w (rowK d e v xs :: L)) : St w0 w (loose e (xs.length * d.sz) v :: L) := by
  obtain ⟨S, ⟨hR, rfl⟩, hh⟩ := h.one
  refine hh (Chg.refl _ _) (loose_loc _ _ _) ⟨?_, rfl⟩ (fun _ _ q => q)
  obtain ⟨h0, inner, ho, hr⟩ := hR
  rcases ho.2 with ⟨rfl, hn⟩ | ⟨g, cap, cur, rfl, -, h1, h2, h3, h4, h5⟩
  · exact .inl ⟨by rw [hn]; simp, rfl⟩
  · exact .inr ⟨g, _, cap, cur, rfl, h1, by rw [h4]; exact Nat.mul_le_mul_right _ h2⟩
theorem St.lset {e m : Nat} {w0 w : World} {L : List HP} {A : Option Addr} {n c : Nat} (h : St w0 w (loose e m (.slice A n c) :: L)) (k : Nat) (hk : k < m) (u : Value) :
    ∃ b, A = some ⟨b, 0, none⟩ ∧ (w.cell? ⟨b, k, none⟩).isSome = true ∧ w.frozen? ⟨b, k, none⟩ = false ∧ St w0 (w.setCell ⟨b, k, none⟩ u) (loose e m (.slice A n c) :: L) := by
  obtain ⟨S, ⟨hR, rfl⟩, hh⟩ := h.one
  rcases hR with ⟨h1, _⟩ | ⟨g, n', cap, cur, e1, h1, h2⟩
  · omega
  · injection e1 with ea eb ec
    subst ea; subst eb; subst ec
    refine ⟨g, rfl, ?_, vfree h1 k, ?_⟩
    · rw [vcell h1 k]
      simp; omega
    · exact hh ((Chg.refl _ _).setc rfl) (loose_loc _ _ _) ⟨.inr ⟨g, n, c, _, rfl, blk_set h1 k u, by simpa using h2⟩, rfl⟩ (fun _ _ q => q)
/-- A whole specification's cells are stored. -/
theorem St.set6 {w0 w : World} {L : List HP} {b t : Nat} {x0 x1 x2 x3 x4 x5 : Value} (h : St w0 w (Go.Proofs.YtkhcdichdnbcmaaR.blk b #[x0, x1, x2, x3, x4, x5] t :: L)) (y0 y1 y2 y3 y4 y5 : Value) :
    St w0 ((((((w.setCell ⟨b, 0, none⟩ y0).setCell ⟨b, 1, none⟩ y1).setCell ⟨b, 2, none⟩ y2).setCell ⟨b, 3, none⟩ y3).setCell ⟨b, 4, none⟩ y4).setCell ⟨b, 5, none⟩ y5) (Go.Proofs.YtkhcdichdnbcmaaR.blk b #[y0, y1, y2, y3, y4, y5] t :: L) :=
  (((((h.setb 0 y0 rfl).setb 1 y1 rfl).setb 2 y2 rfl).setb 3 y3 rfl).setb 4 y4 rfl).setb 5 y5 rfl
end Go.Proofs.YtkhcdichdnbcmaaR
end

section
/- Few of a command, over objects. -/
namespace Go.Proofs.YtkhcdichdnbcmaaR
open Go.RowKit Go.Proofs.YtkhcdichdnbcmaaR Go.Proofs.YtkhcdichdnbcmaaR.Ext Go.Proofs.YtkhcdichdnbcmaaR.C Go.Proofs.YtkhcdichdnbcmaaR.Sp Go.Proofs.YtkhcdichdnbcmaaRW.PrintWords Go.Proofs.YtkhcdichdnbcmaaRW.PrintLast
set_option linter.unusedVariables false
set_option linter.unusedSimpArgs false
abbrev TX := S90
abbrev RI (v : Value) (xs : List Int) : HP := rowK (Kd.int .i64) 3 v xs
abbrev RT (v : Value) (xs : List TX) : HP := rowK k90 90 v xs
abbrev tCm : Nat := 29
theorem kX_flat : Flat k90 := flat_iso (flat_pair (flat_iso (flat_pair flat_bool (flat_pair (flat_int _) (flat_pair (flat_int _) (flat_pair (flat_int _) (flat_int _))))) _) (flat_int _)) _
/-- Few of the specification, as a law walks it. -/
def FewOf (w0 : World) (L : List HP) (a b c d : Int) (A B : Option Addr) (n m p q : Nat) (ps : List Int) (ts : List TX) : Prop :=
  ∀ (W : World) (P Q : HP), St w0 W (P :: Q :: L) → Calls Try.prog 32 #[.agg #[.int .i64 a, .int .i64 b, .int .i64 c, .int .i64 d, .slice A n p, .slice B m q]] W fun e w' => ∃ A' B' c' d' n' m', e = .returned (.agg #[.int .i64 a, .int .i64 b, .int .i64 c, .int .i64 d, .slice A' n' c', .slice B' m' d']) ∧ St w0 w' (RI (.slice A' n' c') ps :: RT (.slice B' m' d') ts :: P :: Q :: L)
set_option maxHeartbeats 1000000 in
theorem few9 {w0 w : World} {L : List HP} (k e a b c d : Int) (A B : Option Addr) (n m p q : Nat) (id : Int) (ps : List Int) (ts : List TX) (h : St w0 w L) (hF : FewOf w0 L a b c d A B n m p q ps ts) :
    Calls Try.prog 12 #[.agg #[.int .u8 k, .int .i64 e, .int .i64 a, .int .i64 b, .int .i64 c, .int .i64 d, .slice A n p, .slice B m q, .int .i64 id]] w fun ee w' => ∃ A' B' c' d' n' m', ee = .returned (.agg #[.int .u8 k, .int .i64 e, .int .i64 a, .int .i64 b, .int .i64 c, .int .i64 d, .slice A' n' c', .slice B' m' d', .int .i64 id]) ∧ St w0 w' (RI (.slice A' n' c') ps :: RT (.slice B' m' d') ts :: L) := by
  have HF := Lib.hid hF
  clear hF
  go_enter Try.func12, Try.ntmps12
  go_wp2_with fail
  have s1 : St w0 ((w.alloc (Obj.cells #[.int .u8 k, .int .i64 e, .int .i64 a, .int .i64 b, .int .i64 c, .int .i64 d, .slice A n p, .slice B m q, .int .i64 id] tCm)).alloc (Obj.cells #[.int .u8 0, .int .i64 0, .int .i64 0, .int .i64 0, .int .i64 0, .int .i64 0, .slice none 0 0, .slice none 0 0, .int .i64 0] tCm)) (blk (w.heap.size + 1) #[.int .u8 0, .int .i64 0, .int .i64 0, .int .i64 0, .int .i64 0, .int .i64 0, .slice none 0 0, .slice none 0 0, .int .i64 0] tCm :: blk w.heap.size #[.int .u8 k, .int .i64 e, .int .i64 a, .int .i64 b, .int .i64 c, .int .i64 d, .slice A n p, .slice B m q, .int .i64 id] tCm :: L) := by
    simpa using (h.alloc #[.int .u8 k, .int .i64 e, .int .i64 a, .int .i64 b, .int .i64 c, .int .i64 d, .slice A n p, .slice B m q, .int .i64 id] tCm).alloc #[.int .u8 0, .int .i64 0, .int .i64 0, .int .i64 0, .int .i64 0, .int .i64 0, .slice none 0 0, .slice none 0 0, .int .i64 0] tCm
  clear h
  generalize ((w.alloc (Obj.cells #[.int .u8 k, .int .i64 e, .int .i64 a, .int .i64 b, .int .i64 c, .int .i64 d, .slice A n p, .slice B m q, .int .i64 id] tCm)).alloc (Obj.cells #[.int .u8 0, .int .i64 0, .int .i64 0, .int .i64 0, .int .i64 0, .int .i64 0, .slice none 0 0, .slice none 0 0, .int .i64 0] tCm)) = w1 at *
  generalize w.heap.size + 1 = b2 at *
  generalize w.heap.size = b1 at *
  refine (HF.out _ _ _ s1).mono ?_
  rintro ee w2 ⟨A', B', c', d', n', m', rfl, s2⟩
  clear s1 HF
  have s3 := s2.pick 3
  simp only [List.getElem_cons_succ, List.getElem_cons_zero, List.eraseIdx_cons_succ, List.eraseIdx_cons_zero] at s3
  clear s2
  have hc3 := s3.cells
  have hf3 := s3.free
  have S3 := Lib.hid s3
  clear s3
  go_wp2_with (first | ((with_reducible refine wpList_storeSt S3.out rfl _ _ 27 rfl 2 #[.int .i64 a, .int .i64 b, .int .i64 c, .int .i64 d, .slice A' n' c', .slice B' m' d'] #[.int .u8 k, .int .i64 e, .int .i64 a, .int .i64 b, .int .i64 c, .int .i64 d, .slice A' n' c', .slice B' m' d', .int .i64 id] size_spec ?hn ?hx ?hv ?hf ?h1 ?he ?_); (case hn => rfl); (case hx => rfl); (case hv => rfl); (case hf => simp); (case h1 => simp [Value.oneCell']); (case he => rfl); intro w4 s4; clear hc3 hf3 S3; have hc4 := s4.cells; have S4 := Lib.hid (s4.pick 3); clear s4) | ((with_reducible refine wpList_storeSt S4.out rfl _ _ 29 rfl 0 #[.int .u8 k, .int .i64 e, .int .i64 a, .int .i64 b, .int .i64 c, .int .i64 d, .slice A' n' c', .slice B' m' d', .int .i64 id] #[.int .u8 k, .int .i64 e, .int .i64 a, .int .i64 b, .int .i64 c, .int .i64 d, .slice A' n' c', .slice B' m' d', .int .i64 id] size_cmd ?hn ?hx ?hv ?hf ?h1 ?he ?_); (case hn => rfl); (case hx => rfl); (case hv => rfl); (case hf => simp); (case h1 => simp [Value.oneCell']); (case he => rfl); intro w5 s5; clear hc4 S4; have hc5 := s5.cells; have hf5 := s5.free; have S5 := Lib.hid s5; clear s5) | fail)
  refine bodyPost_ret (v := .agg #[.int .u8 k, .int .i64 e, .int .i64 a, .int .i64 b, .int .i64 c, .int .i64 d, .slice A' n' c', .slice B' m' d', .int .i64 id]) (by simp [results, Try.results12, go_sem, hc5]) rfl ?_
  exact ⟨A', B', c', d', n', m', rfl, S5.out.drop.drop⟩
end Go.Proofs.YtkhcdichdnbcmaaR
end

section
/- cmd.Decode, over objects. -/
namespace Go.Proofs.YtkhcdichdnbcmaaR
open Go.RowKit Go.Proofs.YtkhcdichdnbcmaaR Go.Proofs.YtkhcdichdnbcmaaR.Ext Go.Proofs.YtkhcdichdnbcmaaR.C Go.Proofs.YtkhcdichdnbcmaaR.Sp Go.Proofs.YtkhcdichdnbcmaaRW.PrintWords Go.Proofs.YtkhcdichdnbcmaaRW.PrintLast
set_option linter.unusedVariables false
set_option linter.unusedSimpArgs false
theorem toList_mkB (l : List UInt8) : (Go.Proofs.YtkhcdichdnbcmaaR.Ext.mkB l).toList = l := by rw [ByteArray.toList_eq]; rfl
def numT (most : Int) (l : List UInt8) : Int × List UInt8 × Bool := match numL most l with | some (n, r) => (n, r, true) | none => (0, [], false)
theorem number_eq (most : Int) (h0 : 0 ≤ most) (h1 : most ≤ 9223372036854775807) (l : List UInt8) : cmd_number.f (Go.Proofs.YtkhcdichdnbcmaaR.Ext.mkB l) most = some ((numT most l).1, Go.Proofs.YtkhcdichdnbcmaaR.Ext.mkB (numT most l).2.1, (numT most l).2.2) := by
  unfold cmd_number.f pack_Unvar.f numT numL
  have hm : IntKind.u64.wrap most = most := IntWalk.u64_in _ (by omega)
  rw [hm]
  have hd : (Go.Proofs.YtkhcdichdnbcmaaR.Ext.mkB l).data.toList = l := rfl
  rw [hd]
  unfold Go.Proofs.YtkhcdichdnbcmaaR.Ext.unvarR
  cases hu : Pk.unvarL l with
  | none => rfl
  | some x =>
    obtain ⟨n, r⟩ := x
    simp only [Option.bind_some]
    rw [if_pos trivial]
    by_cases hn : (n : Int) ≤ most
    · rw [if_neg (by omega), if_pos hn]
      have : wrap64 (n : Int) = n := by unfold wrap64; omega
      rw [this]
    · rw [if_pos (by omega), if_neg hn]
      rfl
theorem number_s {w0 w : World} {L : List HP} (most : Int) (h0 : 0 ≤ most) (h1 : most ≤ 9223372036854775807) (l : List UInt8) (n : Int) (r : List UInt8) (o : Bool) (hx : numT most l = (n, r, o)) (h : St w0 w L) :
    Calls Try.prog 43 #[.string (Go.Proofs.YtkhcdichdnbcmaaR.Ext.mkB l), .int .i64 most] w fun e w' => e = .returned (.tuple #[.int .i64 n, .string (Go.Proofs.YtkhcdichdnbcmaaR.Ext.mkB r), .bool o]) ∧ St w0 w' L := by
  have q := number_eq most h0 h1 l
  rw [hx] at q
  refine (cmd_number.calls _ _ _ _ _ w q).mono ?_
  rintro e w' ⟨rfl, ⟨k, rfl⟩⟩
  exact ⟨rfl, h.drewN k⟩
theorem dec_s {w0 w : World} {L : List HP} (bs : List UInt8) (x1 x2 x3 x4 : Int) (ps : List Int) (ts : List Sp.TS) (rest : List UInt8) (er : Int) (hx : decR bs = (⟨x1, x2, x3, x4, ps, ts⟩, rest, er)) (h : St w0 w L) : Calls Try.prog 44 #[.string (Go.Proofs.YtkhcdichdnbcmaaR.Ext.mkB bs)] w fun e w' => ∃ A B c d n m, e = .returned (.tuple #[.agg #[.int .i64 x1, .int .i64 x2, .int .i64 x3, .int .i64 x4, .slice A n c, .slice B m d], .string (Go.Proofs.YtkhcdichdnbcmaaR.Ext.mkB rest), .int .i64 er]) ∧ St w0 w' (RI (.slice A n c) ps :: RT (.slice B m d) (ts.map ofTS) :: L) := by
  have q := decode_c bs w
  rw [hx] at q
  refine q.mono ?_
  rintro e w' ⟨v4, v5, rfl, h4, h5, hb⟩
  obtain ⟨A, n, c, rfl⟩ := R_slice3 h4
  obtain ⟨B, m, d, rfl⟩ := R_slice3 h5
  exact ⟨A, B, c, d, n, m, rfl, h.rows2 (flat_int _) kX_flat (by decide) hb h4 (k_of h5)⟩
theorem chk9_s {w0 w : World} {L : List HP} (k e a b c d : Int) {A B : Option Addr} {n m p q : Nat} (id : Int) (ps : List Int) (ts : List TX) (h : St w0 w (RI (.slice A n p) ps :: RT (.slice B m q) ts :: L)) (r : Int) (hr : Sp.cmdE ⟨k, e, spOf a b c d ps ts, id⟩ = r) :
    Calls Try.prog 17 #[.agg #[.int .u8 k, .int .i64 e, .int .i64 a, .int .i64 b, .int .i64 c, .int .i64 d, .slice A n p, .slice B m q, .int .i64 id]] w fun e w' => e = .returned (.int .i64 r) ∧ St w0 w' (RI (.slice A n p) ps :: RT (.slice B m q) ts :: L) := by
  obtain ⟨c1, e1, l1⟩ := h.rowKC
  obtain ⟨c2, e2, l2⟩ := (h.pick 1).rowKC
  subst e1; subst e2
  refine (cmd_Check.calls k e a b c d A p ps B q ts id r w c1 l1 c2 l2 (by unfold cmd_Check.f; rw [hr])).mono ?_
  rintro e w' ⟨rfl, hb⟩
  exact ⟨rfl, h.more hb⟩
theorem enc9_s {w0 w : World} {L : List HP} (k e a b c d : Int) {A B : Option Addr} {n m p q : Nat} (id : Int) (ps : List Int) (ts : List TX) (h : St w0 w (RI (.slice A n p) ps :: RT (.slice B m q) ts :: L)) (x : List UInt8) (r : Int) (hx : Sp.encCR ⟨k, e, spOf a b c d ps ts, id⟩ = x) (hr : Sp.cmdE ⟨k, e, spOf a b c d ps ts, id⟩ = r) :
    Calls Try.prog 13 #[.agg #[.int .u8 k, .int .i64 e, .int .i64 a, .int .i64 b, .int .i64 c, .int .i64 d, .slice A n p, .slice B m q, .int .i64 id]] w fun e w' => e = .returned (.tuple #[.string (Go.Proofs.YtkhcdichdnbcmaaR.Ext.mkB x), .int .i64 r]) ∧ St w0 w' (RI (.slice A n p) ps :: RT (.slice B m q) ts :: L) := by
  obtain ⟨c1, e1, l1⟩ := h.rowKC
  obtain ⟨c2, e2, l2⟩ := (h.pick 1).rowKC
  subst e1; subst e2
  refine (cmd_Encode.calls k e a b c d A p ps B q ts id _ _ w c1 l1 c2 l2 (by unfold cmd_Encode.f encCB; rw [hr, hx])).mono ?_
  rintro e w' ⟨rfl, hb⟩
  exact ⟨rfl, h.more hb⟩
set_option maxRecDepth 100000 in
set_option maxHeartbeats 1000000 in
theorem cdec_long {w0 w : World} {L : List HP} (l : List UInt8) (h : St w0 w L)
    (hl : 1024 < l.length) :
    Calls Try.prog 20 #[.string (Go.Proofs.YtkhcdichdnbcmaaR.Ext.mkB l)] w fun ee w' => ee = .returned (.tuple #[.agg #[.int .u8 0, .int .i64 0, .int .i64 0, .int .i64 0, .int .i64 0, .int .i64 0, .slice none 0 0, .slice none 0 0, .int .i64 0], .int .i64 5]) ∧ St w0 w' L := by
  have hsz := mkB_size l
  have f1 : decide (1024 < ((Go.Proofs.YtkhcdichdnbcmaaR.Ext.mkB l).size : Int)) = true := decide_eq_true (by rw [hsz]; omega)
  have f2 : decide (1024 < (Go.Proofs.YtkhcdichdnbcmaaR.Ext.mkB l).size) = true := decide_eq_true (by rw [hsz]; omega)
  have f3 : (1024 < (Go.Proofs.YtkhcdichdnbcmaaR.Ext.mkB l).size) = True := eq_true (by rw [hsz]; omega)
  clear hsz hl
  have s0 := h.alloc #[.int .u8 0, .int .i64 0, .int .i64 0, .int .i64 0, .int .i64 0, .int .i64 0, .slice none 0 0, .slice none 0 0, .int .i64 0] tCm
  clear h
  have S0 := Lib.hid s0
  clear s0
  go_enter Try.func20, Try.ntmps20
  go_wp2_with (first | ((with_reducible refine wpList_storeSt S0.out rfl _ _ 29 rfl 0 #[.int .u8 0, .int .i64 0, .int .i64 0, .int .i64 0, .int .i64 0, .int .i64 0, .slice none 0 0, .slice none 0 0, .int .i64 0] #[.int .u8 0, .int .i64 0, .int .i64 0, .int .i64 0, .int .i64 0, .int .i64 0, .slice none 0 0, .slice none 0 0, .int .i64 0] size_cmd ?hn ?hx ?hv ?hf ?h1 ?he ?_); (case hn => rfl); (case hx => rfl); (case hv => rfl); (case hf => simp); (case h1 => simp [Value.oneCell']); (case he => rfl); intro wz sz; have hcz := sz.cells; have hfz := sz.free; have SZ := Lib.hid sz; clear sz)| fail)
  refine bodyPost_ret (v := .tuple #[.agg #[.int .u8 0, .int .i64 0, .int .i64 0, .int .i64 0, .int .i64 0, .int .i64 0, .slice none 0 0, .slice none 0 0, .int .i64 0], .int .i64 5]) (by simp [results, Try.results20, go_sem, hcz]) rfl ?_
  exact ⟨rfl, SZ.out.drop⟩
set_option maxRecDepth 100000 in
set_option maxHeartbeats 1000000 in
theorem cdec_k {w0 w : World} {L : List HP} (l : List UInt8) (h : St w0 w L)
    (hl : l.length ≤ 1024)
    (H1 : Go.RowKit.Hid (∀ (W : World) (M : List HP), St w0 W M → Calls Try.prog 43 #[.string (Go.Proofs.YtkhcdichdnbcmaaR.Ext.mkB l), .int .i64 3] W fun ee w' => ee = .returned (.tuple #[.int .i64 0, .string (Go.Proofs.YtkhcdichdnbcmaaR.Ext.mkB []), .bool false]) ∧ St w0 w' M)) :
    Calls Try.prog 20 #[.string (Go.Proofs.YtkhcdichdnbcmaaR.Ext.mkB l)] w fun ee w' => ee = .returned (.tuple #[.agg #[.int .u8 0, .int .i64 0, .int .i64 0, .int .i64 0, .int .i64 0, .int .i64 0, .slice none 0 0, .slice none 0 0, .int .i64 0], .int .i64 4]) ∧ St w0 w' L := by
  have hsz := mkB_size l
  have f1 : decide (1024 < ((Go.Proofs.YtkhcdichdnbcmaaR.Ext.mkB l).size : Int)) = false := decide_eq_false (by rw [hsz]; omega)
  have f2 : decide (1024 < (Go.Proofs.YtkhcdichdnbcmaaR.Ext.mkB l).size) = false := decide_eq_false (by rw [hsz]; omega)
  have f3 : (1024 < (Go.Proofs.YtkhcdichdnbcmaaR.Ext.mkB l).size) = False := eq_false (by rw [hsz]; omega)
  clear hsz hl
  have s0 := h.alloc #[.int .u8 0, .int .i64 0, .int .i64 0, .int .i64 0, .int .i64 0, .int .i64 0, .slice none 0 0, .slice none 0 0, .int .i64 0] tCm
  clear h
  have S0 := Lib.hid s0
  clear s0
  go_enter Try.func20, Try.ntmps20
  go_wp2_with fail
  generalize w.heap.size = b2 at *
  refine (H1.out _ _ S0.out).mono ?_
  rintro ee w1 ⟨rfl, s1⟩
  clear S0 H1 f1 f2 f3
  have S1 := Lib.hid s1
  clear s1
  go_wp2_with (first | ((with_reducible refine wpList_storeSt S1.out rfl _ _ 29 rfl 0 #[.int .u8 0, .int .i64 0, .int .i64 0, .int .i64 0, .int .i64 0, .int .i64 0, .slice none 0 0, .slice none 0 0, .int .i64 0] #[.int .u8 0, .int .i64 0, .int .i64 0, .int .i64 0, .int .i64 0, .int .i64 0, .slice none 0 0, .slice none 0 0, .int .i64 0] size_cmd ?hn ?hx ?hv ?hf ?h1 ?he ?_); (case hn => rfl); (case hx => rfl); (case hv => rfl); (case hf => simp); (case h1 => simp [Value.oneCell']); (case he => rfl); intro wz sz; have hcz := sz.cells; have hfz := sz.free; have SZ := Lib.hid sz; clear sz)| fail)
  refine bodyPost_ret (v := .tuple #[.agg #[.int .u8 0, .int .i64 0, .int .i64 0, .int .i64 0, .int .i64 0, .int .i64 0, .slice none 0 0, .slice none 0 0, .int .i64 0], .int .i64 4]) (by simp [results, Try.results20, go_sem, hcz]) rfl ?_
  exact ⟨rfl, SZ.out.drop⟩
set_option maxRecDepth 100000 in
set_option maxHeartbeats 1000000 in
theorem cdec_e {w0 w : World} {L : List HP} (l : List UInt8) (k : Int) (r1 : List UInt8) (h : St w0 w L)
    (hl : l.length ≤ 1024)
    (hk : 0 ≤ k ∧ k ≤ 3)
    (H1 : Go.RowKit.Hid (∀ (W : World) (M : List HP), St w0 W M → Calls Try.prog 43 #[.string (Go.Proofs.YtkhcdichdnbcmaaR.Ext.mkB l), .int .i64 3] W fun ee w' => ee = .returned (.tuple #[.int .i64 k, .string (Go.Proofs.YtkhcdichdnbcmaaR.Ext.mkB r1), .bool true]) ∧ St w0 w' M))
    (H2 : Go.RowKit.Hid (∀ (W : World) (M : List HP), St w0 W M → Calls Try.prog 43 #[.string (Go.Proofs.YtkhcdichdnbcmaaR.Ext.mkB r1), .int .i64 1099511627776] W fun ee w' => ee = .returned (.tuple #[.int .i64 0, .string (Go.Proofs.YtkhcdichdnbcmaaR.Ext.mkB []), .bool false]) ∧ St w0 w' M)) :
    Calls Try.prog 20 #[.string (Go.Proofs.YtkhcdichdnbcmaaR.Ext.mkB l)] w fun ee w' => ee = .returned (.tuple #[.agg #[.int .u8 0, .int .i64 0, .int .i64 0, .int .i64 0, .int .i64 0, .int .i64 0, .slice none 0 0, .slice none 0 0, .int .i64 0], .int .i64 4]) ∧ St w0 w' L := by
  have hcv : IntKind.u8.wrap k = k := by unfold IntKind.wrap; simp [IntKind.bits, IntKind.signed]; omega
  clear hk
  have hsz := mkB_size l
  have f1 : decide (1024 < ((Go.Proofs.YtkhcdichdnbcmaaR.Ext.mkB l).size : Int)) = false := decide_eq_false (by rw [hsz]; omega)
  have f2 : decide (1024 < (Go.Proofs.YtkhcdichdnbcmaaR.Ext.mkB l).size) = false := decide_eq_false (by rw [hsz]; omega)
  have f3 : (1024 < (Go.Proofs.YtkhcdichdnbcmaaR.Ext.mkB l).size) = False := eq_false (by rw [hsz]; omega)
  clear hsz hl
  have s0 := h.alloc #[.int .u8 0, .int .i64 0, .int .i64 0, .int .i64 0, .int .i64 0, .int .i64 0, .slice none 0 0, .slice none 0 0, .int .i64 0] tCm
  clear h
  have S0 := Lib.hid s0
  clear s0
  go_enter Try.func20, Try.ntmps20
  go_wp2_with fail
  generalize w.heap.size = b2 at *
  refine (H1.out _ _ S0.out).mono ?_
  rintro ee w1 ⟨rfl, s1⟩
  clear S0 H1 f1 f2 f3
  have s2 := s1.alloc #[.int .u8 k, .int .i64 0, .int .i64 0, .int .i64 0, .int .i64 0, .int .i64 0, .slice none 0 0, .slice none 0 0, .int .i64 0] tCm
  clear s1
  have S2 := Lib.hid s2
  clear s2
  go_wp2_with fail
  generalize w1.heap.size = b7 at *
  refine (H2.out _ _ S2.out).mono ?_
  rintro ee w2 ⟨rfl, s3⟩
  clear S2 H2
  have hcb7 := s3.cells
  have hfb7 := s3.free
  have s4 := s3.setb 1 (.int .i64 0) rfl
  have s5 := s4.pick 1
  simp only [List.getElem_cons_succ, List.getElem_cons_zero, List.eraseIdx_cons_succ, List.eraseIdx_cons_zero] at s5
  have S5 := Lib.hid s5
  clear s3 s4 s5
  go_wp2_with (first | ((with_reducible refine wpList_storeSt S5.out rfl _ _ 29 rfl 0 #[.int .u8 0, .int .i64 0, .int .i64 0, .int .i64 0, .int .i64 0, .int .i64 0, .slice none 0 0, .slice none 0 0, .int .i64 0] #[.int .u8 0, .int .i64 0, .int .i64 0, .int .i64 0, .int .i64 0, .int .i64 0, .slice none 0 0, .slice none 0 0, .int .i64 0] size_cmd ?hn ?hx ?hv ?hf ?h1 ?he ?_); (case hn => rfl); (case hx => rfl); (case hv => rfl); (case hf => simp); (case h1 => simp [Value.oneCell']); (case he => rfl); intro wz sz; have hcz := sz.cells; have hfz := sz.free; have SZ := Lib.hid sz; clear sz)| fail)
  refine bodyPost_ret (v := .tuple #[.agg #[.int .u8 0, .int .i64 0, .int .i64 0, .int .i64 0, .int .i64 0, .int .i64 0, .slice none 0 0, .slice none 0 0, .int .i64 0], .int .i64 4]) (by simp [results, Try.results20, go_sem, hcz]) rfl ?_
  exact ⟨rfl, SZ.out.drop.drop⟩
set_option maxRecDepth 100000 in
set_option maxHeartbeats 1000000 in
theorem cdec_ps {w0 w : World} {L : List HP} (l : List UInt8) (r1 r2 r3 : List UInt8) (e a b c d er : Int) (ps : List Int) (ts : List TX) (h : St w0 w L)
    (hl : l.length ≤ 1024)
    (H1 : Go.RowKit.Hid (∀ (W : World) (M : List HP), St w0 W M → Calls Try.prog 43 #[.string (Go.Proofs.YtkhcdichdnbcmaaR.Ext.mkB l), .int .i64 3] W fun ee w' => ee = .returned (.tuple #[.int .i64 1, .string (Go.Proofs.YtkhcdichdnbcmaaR.Ext.mkB r1), .bool true]) ∧ St w0 w' M))
    (H2 : Go.RowKit.Hid (∀ (W : World) (M : List HP), St w0 W M → Calls Try.prog 43 #[.string (Go.Proofs.YtkhcdichdnbcmaaR.Ext.mkB r1), .int .i64 1099511627776] W fun ee w' => ee = .returned (.tuple #[.int .i64 e, .string (Go.Proofs.YtkhcdichdnbcmaaR.Ext.mkB r2), .bool true]) ∧ St w0 w' M))
    (her : er ≠ 0)
    (HD : Go.RowKit.Hid (∀ (W : World) (M : List HP), St w0 W M → Calls Try.prog 44 #[.string (Go.Proofs.YtkhcdichdnbcmaaR.Ext.mkB r2)] W fun ee w' => ∃ A B p q n m, ee = .returned (.tuple #[.agg #[.int .i64 a, .int .i64 b, .int .i64 c, .int .i64 d, .slice A n p, .slice B m q], .string (Go.Proofs.YtkhcdichdnbcmaaR.Ext.mkB r3), .int .i64 er]) ∧ St w0 w' (RI (.slice A n p) ps :: RT (.slice B m q) ts :: M))) :
    Calls Try.prog 20 #[.string (Go.Proofs.YtkhcdichdnbcmaaR.Ext.mkB l)] w fun ee w' => ee = .returned (.tuple #[.agg #[.int .u8 0, .int .i64 0, .int .i64 0, .int .i64 0, .int .i64 0, .int .i64 0, .slice none 0 0, .slice none 0 0, .int .i64 0], .int .i64 4]) ∧ St w0 w' L := by
  have g3 : (er == 0) = false := beq_eq_false_iff_ne.mpr her
  clear her
  have hsz := mkB_size l
  have f1 : decide (1024 < ((Go.Proofs.YtkhcdichdnbcmaaR.Ext.mkB l).size : Int)) = false := decide_eq_false (by rw [hsz]; omega)
  have f2 : decide (1024 < (Go.Proofs.YtkhcdichdnbcmaaR.Ext.mkB l).size) = false := decide_eq_false (by rw [hsz]; omega)
  have f3 : (1024 < (Go.Proofs.YtkhcdichdnbcmaaR.Ext.mkB l).size) = False := eq_false (by rw [hsz]; omega)
  clear hsz hl
  have s0 := h.alloc #[.int .u8 0, .int .i64 0, .int .i64 0, .int .i64 0, .int .i64 0, .int .i64 0, .slice none 0 0, .slice none 0 0, .int .i64 0] tCm
  clear h
  have S0 := Lib.hid s0
  clear s0
  go_enter Try.func20, Try.ntmps20
  go_wp2_with fail
  generalize w.heap.size = b2 at *
  refine (H1.out _ _ S0.out).mono ?_
  rintro ee w1 ⟨rfl, s1⟩
  clear S0 H1 f1 f2 f3
  have s2 := s1.alloc #[.int .u8 1, .int .i64 0, .int .i64 0, .int .i64 0, .int .i64 0, .int .i64 0, .slice none 0 0, .slice none 0 0, .int .i64 0] tCm
  clear s1
  have S2 := Lib.hid s2
  clear s2
  go_wp2_with fail
  generalize w1.heap.size = b7 at *
  refine (H2.out _ _ S2.out).mono ?_
  rintro ee w2 ⟨rfl, s3⟩
  clear S2 H2
  have hcb7 := s3.cells
  have hfb7 := s3.free
  have s4 := s3.setb 1 (.int .i64 e) rfl
  clear s3
  have S4 := Lib.hid s4
  clear s4
  go_wp2_with fail
  refine (HD.out _ _ S4.out).mono ?_
  rintro ee w3 ⟨A, B, p, q, n, m, rfl, s5⟩
  clear S4 HD hcb7 hfb7
  have s6 := s5.pick 2
  simp only [List.getElem_cons_succ, List.getElem_cons_zero, List.eraseIdx_cons_succ, List.eraseIdx_cons_zero] at s6
  have S6 := Lib.hid s6
  clear s5 s6
  have hc6 := S6.out.cells
  have hf6 := S6.out.free
  go_wp2_with (first | ((with_reducible refine wpList_storeSt S6.out rfl _ _ 27 rfl 2 #[.int .i64 a, .int .i64 b, .int .i64 c, .int .i64 d, .slice A n p, .slice B m q] #[.int .u8 1, .int .i64 e, .int .i64 a, .int .i64 b, .int .i64 c, .int .i64 d, .slice A n p, .slice B m q, .int .i64 0] size_spec ?hn ?hx ?hv ?hf ?h1 ?he ?_); (case hn => rfl); (case hx => rfl); (case hv => rfl); (case hf => simp); (case h1 => simp [Value.oneCell']); (case he => rfl); intro w4 s7; clear hc6 hf6; have hc7 := s7.cells; have hf7 := s7.free; have S7 := Lib.hid s7; clear s7) | ((with_reducible refine wpList_storeSt (L := _) (w := w4) (cs := #[.int .u8 0, .int .i64 0, .int .i64 0, .int .i64 0, .int .i64 0, .int .i64 0, .slice none 0 0, .slice none 0 0, .int .i64 0]) (b := b2) (tb := tCm) (by have z := S7.out.pick 3; simp only [List.getElem_cons_succ, List.getElem_cons_zero, List.eraseIdx_cons_succ, List.eraseIdx_cons_zero] at z; exact z) rfl _ _ 29 rfl 0 #[.int .u8 0, .int .i64 0, .int .i64 0, .int .i64 0, .int .i64 0, .int .i64 0, .slice none 0 0, .slice none 0 0, .int .i64 0] #[.int .u8 0, .int .i64 0, .int .i64 0, .int .i64 0, .int .i64 0, .int .i64 0, .slice none 0 0, .slice none 0 0, .int .i64 0] size_cmd ?hn ?hx ?hv ?hf ?h1 ?he ?_); (case hn => rfl); (case hx => rfl); (case hv => rfl); (case hf => simp); (case h1 => simp [Value.oneCell']); (case he => rfl); intro wz sz; have hcz := sz.cells; have hfz := sz.free; have SZ := Lib.hid sz; clear sz)| fail)
  refine bodyPost_ret (v := .tuple #[.agg #[.int .u8 0, .int .i64 0, .int .i64 0, .int .i64 0, .int .i64 0, .int .i64 0, .slice none 0 0, .slice none 0 0, .int .i64 0], .int .i64 4]) (by simp [results, Try.results20, go_sem, hcz]) rfl ?_
  exact ⟨rfl, SZ.out.drop.drop.drop.drop⟩
set_option maxRecDepth 100000 in
set_option maxHeartbeats 1000000 in
theorem cdec_pr {w0 w : World} {L : List HP} (l : List UInt8) (r1 r2 r3 : List UInt8) (e a b c d er : Int) (ps : List Int) (ts : List TX) (h : St w0 w L)
    (hl : l.length ≤ 1024)
    (H1 : Go.RowKit.Hid (∀ (W : World) (M : List HP), St w0 W M → Calls Try.prog 43 #[.string (Go.Proofs.YtkhcdichdnbcmaaR.Ext.mkB l), .int .i64 3] W fun ee w' => ee = .returned (.tuple #[.int .i64 1, .string (Go.Proofs.YtkhcdichdnbcmaaR.Ext.mkB r1), .bool true]) ∧ St w0 w' M))
    (H2 : Go.RowKit.Hid (∀ (W : World) (M : List HP), St w0 W M → Calls Try.prog 43 #[.string (Go.Proofs.YtkhcdichdnbcmaaR.Ext.mkB r1), .int .i64 1099511627776] W fun ee w' => ee = .returned (.tuple #[.int .i64 e, .string (Go.Proofs.YtkhcdichdnbcmaaR.Ext.mkB r2), .bool true]) ∧ St w0 w' M))
    (her : er = 0) (hr : r3 ≠ [])
    (HD : Go.RowKit.Hid (∀ (W : World) (M : List HP), St w0 W M → Calls Try.prog 44 #[.string (Go.Proofs.YtkhcdichdnbcmaaR.Ext.mkB r2)] W fun ee w' => ∃ A B p q n m, ee = .returned (.tuple #[.agg #[.int .i64 a, .int .i64 b, .int .i64 c, .int .i64 d, .slice A n p, .slice B m q], .string (Go.Proofs.YtkhcdichdnbcmaaR.Ext.mkB r3), .int .i64 er]) ∧ St w0 w' (RI (.slice A n p) ps :: RT (.slice B m q) ts :: M))) :
    Calls Try.prog 20 #[.string (Go.Proofs.YtkhcdichdnbcmaaR.Ext.mkB l)] w fun ee w' => ee = .returned (.tuple #[.agg #[.int .u8 0, .int .i64 0, .int .i64 0, .int .i64 0, .int .i64 0, .int .i64 0, .slice none 0 0, .slice none 0 0, .int .i64 0], .int .i64 4]) ∧ St w0 w' L := by
  subst her
  have g1 : ((Go.Proofs.YtkhcdichdnbcmaaR.Ext.mkB r3).toList == ([] : List UInt8)) = false := by rw [toList_mkB]; exact beq_eq_false_iff_ne.mpr hr
  have g2 : ((Go.Proofs.YtkhcdichdnbcmaaR.Ext.mkB r3).toList != ([] : List UInt8)) = true := by rw [toList_mkB]; exact bne_iff_ne.mpr hr
  clear hr
  have hsz := mkB_size l
  have f1 : decide (1024 < ((Go.Proofs.YtkhcdichdnbcmaaR.Ext.mkB l).size : Int)) = false := decide_eq_false (by rw [hsz]; omega)
  have f2 : decide (1024 < (Go.Proofs.YtkhcdichdnbcmaaR.Ext.mkB l).size) = false := decide_eq_false (by rw [hsz]; omega)
  have f3 : (1024 < (Go.Proofs.YtkhcdichdnbcmaaR.Ext.mkB l).size) = False := eq_false (by rw [hsz]; omega)
  clear hsz hl
  have s0 := h.alloc #[.int .u8 0, .int .i64 0, .int .i64 0, .int .i64 0, .int .i64 0, .int .i64 0, .slice none 0 0, .slice none 0 0, .int .i64 0] tCm
  clear h
  have S0 := Lib.hid s0
  clear s0
  go_enter Try.func20, Try.ntmps20
  go_wp2_with fail
  generalize w.heap.size = b2 at *
  refine (H1.out _ _ S0.out).mono ?_
  rintro ee w1 ⟨rfl, s1⟩
  clear S0 H1 f1 f2 f3
  have s2 := s1.alloc #[.int .u8 1, .int .i64 0, .int .i64 0, .int .i64 0, .int .i64 0, .int .i64 0, .slice none 0 0, .slice none 0 0, .int .i64 0] tCm
  clear s1
  have S2 := Lib.hid s2
  clear s2
  go_wp2_with fail
  generalize w1.heap.size = b7 at *
  refine (H2.out _ _ S2.out).mono ?_
  rintro ee w2 ⟨rfl, s3⟩
  clear S2 H2
  have hcb7 := s3.cells
  have hfb7 := s3.free
  have s4 := s3.setb 1 (.int .i64 e) rfl
  clear s3
  have S4 := Lib.hid s4
  clear s4
  go_wp2_with fail
  refine (HD.out _ _ S4.out).mono ?_
  rintro ee w3 ⟨A, B, p, q, n, m, rfl, s5⟩
  clear S4 HD hcb7 hfb7
  have s6 := s5.pick 2
  simp only [List.getElem_cons_succ, List.getElem_cons_zero, List.eraseIdx_cons_succ, List.eraseIdx_cons_zero] at s6
  have S6 := Lib.hid s6
  clear s5 s6
  have hc6 := S6.out.cells
  have hf6 := S6.out.free
  go_wp2_with (first | ((with_reducible refine wpList_storeSt S6.out rfl _ _ 27 rfl 2 #[.int .i64 a, .int .i64 b, .int .i64 c, .int .i64 d, .slice A n p, .slice B m q] #[.int .u8 1, .int .i64 e, .int .i64 a, .int .i64 b, .int .i64 c, .int .i64 d, .slice A n p, .slice B m q, .int .i64 0] size_spec ?hn ?hx ?hv ?hf ?h1 ?he ?_); (case hn => rfl); (case hx => rfl); (case hv => rfl); (case hf => simp); (case h1 => simp [Value.oneCell']); (case he => rfl); intro w4 s7; clear hc6 hf6; have hc7 := s7.cells; have hf7 := s7.free; have S7 := Lib.hid s7; clear s7) | ((with_reducible refine wpList_storeSt (L := _) (w := w4) (cs := #[.int .u8 0, .int .i64 0, .int .i64 0, .int .i64 0, .int .i64 0, .int .i64 0, .slice none 0 0, .slice none 0 0, .int .i64 0]) (b := b2) (tb := tCm) (by have z := S7.out.pick 3; simp only [List.getElem_cons_succ, List.getElem_cons_zero, List.eraseIdx_cons_succ, List.eraseIdx_cons_zero] at z; exact z) rfl _ _ 29 rfl 0 #[.int .u8 0, .int .i64 0, .int .i64 0, .int .i64 0, .int .i64 0, .int .i64 0, .slice none 0 0, .slice none 0 0, .int .i64 0] #[.int .u8 0, .int .i64 0, .int .i64 0, .int .i64 0, .int .i64 0, .int .i64 0, .slice none 0 0, .slice none 0 0, .int .i64 0] size_cmd ?hn ?hx ?hv ?hf ?h1 ?he ?_); (case hn => rfl); (case hx => rfl); (case hv => rfl); (case hf => simp); (case h1 => simp [Value.oneCell']); (case he => rfl); intro wz sz; have hcz := sz.cells; have hfz := sz.free; have SZ := Lib.hid sz; clear sz)| fail)
  refine bodyPost_ret (v := .tuple #[.agg #[.int .u8 0, .int .i64 0, .int .i64 0, .int .i64 0, .int .i64 0, .int .i64 0, .slice none 0 0, .slice none 0 0, .int .i64 0], .int .i64 4]) (by simp [results, Try.results20, go_sem, hcz]) rfl ?_
  exact ⟨rfl, SZ.out.drop.drop.drop.drop⟩
set_option maxRecDepth 100000 in
set_option maxHeartbeats 1000000 in
theorem cdec_pc {w0 w : World} {L : List HP} (l : List UInt8) (r1 r2 r3 : List UInt8) (e a b c d er : Int) (ps : List Int) (ts : List TX) (E : Int) (h : St w0 w L)
    (hl : l.length ≤ 1024)
    (H1 : Go.RowKit.Hid (∀ (W : World) (M : List HP), St w0 W M → Calls Try.prog 43 #[.string (Go.Proofs.YtkhcdichdnbcmaaR.Ext.mkB l), .int .i64 3] W fun ee w' => ee = .returned (.tuple #[.int .i64 1, .string (Go.Proofs.YtkhcdichdnbcmaaR.Ext.mkB r1), .bool true]) ∧ St w0 w' M))
    (H2 : Go.RowKit.Hid (∀ (W : World) (M : List HP), St w0 W M → Calls Try.prog 43 #[.string (Go.Proofs.YtkhcdichdnbcmaaR.Ext.mkB r1), .int .i64 1099511627776] W fun ee w' => ee = .returned (.tuple #[.int .i64 e, .string (Go.Proofs.YtkhcdichdnbcmaaR.Ext.mkB r2), .bool true]) ∧ St w0 w' M))
    (her : er = 0) (hr : r3 = []) (hE : E ≠ 0)
    (HD : Go.RowKit.Hid (∀ (W : World) (M : List HP), St w0 W M → Calls Try.prog 44 #[.string (Go.Proofs.YtkhcdichdnbcmaaR.Ext.mkB r2)] W fun ee w' => ∃ A B p q n m, ee = .returned (.tuple #[.agg #[.int .i64 a, .int .i64 b, .int .i64 c, .int .i64 d, .slice A n p, .slice B m q], .string (Go.Proofs.YtkhcdichdnbcmaaR.Ext.mkB r3), .int .i64 er]) ∧ St w0 w' (RI (.slice A n p) ps :: RT (.slice B m q) ts :: M)))
    (HC : Go.RowKit.Hid (∀ (W : World) (M : List HP) (A B : Option Addr) (n m p q : Nat), St w0 W (RI (.slice A n p) ps :: RT (.slice B m q) ts :: M) → Calls Try.prog 17 #[.agg #[.int .u8 1, .int .i64 e, .int .i64 a, .int .i64 b, .int .i64 c, .int .i64 d, .slice A n p, .slice B m q, .int .i64 0]] W fun ee w' => ee = .returned (.int .i64 E) ∧ St w0 w' (RI (.slice A n p) ps :: RT (.slice B m q) ts :: M))) :
    Calls Try.prog 20 #[.string (Go.Proofs.YtkhcdichdnbcmaaR.Ext.mkB l)] w fun ee w' => ee = .returned (.tuple #[.agg #[.int .u8 0, .int .i64 0, .int .i64 0, .int .i64 0, .int .i64 0, .int .i64 0, .slice none 0 0, .slice none 0 0, .int .i64 0], .int .i64 4]) ∧ St w0 w' L := by
  subst her
  have g1 : ((Go.Proofs.YtkhcdichdnbcmaaR.Ext.mkB r3).toList == ([] : List UInt8)) = true := by rw [toList_mkB]; subst hr; rfl
  have g2 : ((Go.Proofs.YtkhcdichdnbcmaaR.Ext.mkB r3).toList != ([] : List UInt8)) = false := by rw [toList_mkB]; subst hr; rfl
  clear hr
  have g3 : (E != 0) = true := bne_iff_ne.mpr hE
  clear hE
  have hsz := mkB_size l
  have f1 : decide (1024 < ((Go.Proofs.YtkhcdichdnbcmaaR.Ext.mkB l).size : Int)) = false := decide_eq_false (by rw [hsz]; omega)
  have f2 : decide (1024 < (Go.Proofs.YtkhcdichdnbcmaaR.Ext.mkB l).size) = false := decide_eq_false (by rw [hsz]; omega)
  have f3 : (1024 < (Go.Proofs.YtkhcdichdnbcmaaR.Ext.mkB l).size) = False := eq_false (by rw [hsz]; omega)
  clear hsz hl
  have s0 := h.alloc #[.int .u8 0, .int .i64 0, .int .i64 0, .int .i64 0, .int .i64 0, .int .i64 0, .slice none 0 0, .slice none 0 0, .int .i64 0] tCm
  clear h
  have S0 := Lib.hid s0
  clear s0
  go_enter Try.func20, Try.ntmps20
  go_wp2_with fail
  generalize w.heap.size = b2 at *
  refine (H1.out _ _ S0.out).mono ?_
  rintro ee w1 ⟨rfl, s1⟩
  clear S0 H1 f1 f2 f3
  have s2 := s1.alloc #[.int .u8 1, .int .i64 0, .int .i64 0, .int .i64 0, .int .i64 0, .int .i64 0, .slice none 0 0, .slice none 0 0, .int .i64 0] tCm
  clear s1
  have S2 := Lib.hid s2
  clear s2
  go_wp2_with fail
  generalize w1.heap.size = b7 at *
  refine (H2.out _ _ S2.out).mono ?_
  rintro ee w2 ⟨rfl, s3⟩
  clear S2 H2
  have hcb7 := s3.cells
  have hfb7 := s3.free
  have s4 := s3.setb 1 (.int .i64 e) rfl
  clear s3
  have S4 := Lib.hid s4
  clear s4
  go_wp2_with fail
  refine (HD.out _ _ S4.out).mono ?_
  rintro ee w3 ⟨A, B, p, q, n, m, rfl, s5⟩
  clear S4 HD hcb7 hfb7
  have s6 := s5.pick 2
  simp only [List.getElem_cons_succ, List.getElem_cons_zero, List.eraseIdx_cons_succ, List.eraseIdx_cons_zero] at s6
  have S6 := Lib.hid s6
  clear s5 s6
  have hc6 := S6.out.cells
  have hf6 := S6.out.free
  go_wp2_with (first | ((with_reducible refine wpList_storeSt S6.out rfl _ _ 27 rfl 2 #[.int .i64 a, .int .i64 b, .int .i64 c, .int .i64 d, .slice A n p, .slice B m q] #[.int .u8 1, .int .i64 e, .int .i64 a, .int .i64 b, .int .i64 c, .int .i64 d, .slice A n p, .slice B m q, .int .i64 0] size_spec ?hn ?hx ?hv ?hf ?h1 ?he ?_); (case hn => rfl); (case hx => rfl); (case hv => rfl); (case hf => simp); (case h1 => simp [Value.oneCell']); (case he => rfl); intro w4 s7; clear hc6 hf6; have hc7 := s7.cells; have hf7 := s7.free; have S7 := Lib.hid s7; clear s7) | fail)
  have s8 := S7.out.pick 1
  simp only [List.getElem_cons_succ, List.getElem_cons_zero, List.eraseIdx_cons_succ, List.eraseIdx_cons_zero] at s8
  have s9 := s8.pick 2
  simp only [List.getElem_cons_succ, List.getElem_cons_zero, List.eraseIdx_cons_succ, List.eraseIdx_cons_zero] at s9
  have s10 := s9.pick 1
  simp only [List.getElem_cons_succ, List.getElem_cons_zero, List.eraseIdx_cons_succ, List.eraseIdx_cons_zero] at s10
  refine (HC.out _ _ _ _ _ _ _ _ s10).mono ?_
  rintro ee w5 ⟨rfl, s11⟩
  clear s8 s9 s10 S7 hc7 hf7 HC
  have s12 := s11.pick 3
  simp only [List.getElem_cons_succ, List.getElem_cons_zero, List.eraseIdx_cons_succ, List.eraseIdx_cons_zero] at s12
  have S12 := Lib.hid s12
  have hc12 := (S12.out.pick 3).cells
  clear s11 s12
  go_wp2_with (first | ((with_reducible refine wpList_storeSt S12.out rfl _ _ 29 rfl 0 #[.int .u8 0, .int .i64 0, .int .i64 0, .int .i64 0, .int .i64 0, .int .i64 0, .slice none 0 0, .slice none 0 0, .int .i64 0] #[.int .u8 0, .int .i64 0, .int .i64 0, .int .i64 0, .int .i64 0, .int .i64 0, .slice none 0 0, .slice none 0 0, .int .i64 0] size_cmd ?hn ?hx ?hv ?hf ?h1 ?he ?_); (case hn => rfl); (case hx => rfl); (case hv => rfl); (case hf => simp); (case h1 => simp [Value.oneCell']); (case he => rfl); intro wz sz; have hcz := sz.cells; have hfz := sz.free; have SZ := Lib.hid sz; clear sz)| fail)
  refine bodyPost_ret (v := .tuple #[.agg #[.int .u8 0, .int .i64 0, .int .i64 0, .int .i64 0, .int .i64 0, .int .i64 0, .slice none 0 0, .slice none 0 0, .int .i64 0], .int .i64 4]) (by simp [results, Try.results20, go_sem, hcz]) rfl ?_
  exact ⟨rfl, SZ.out.drop.drop.drop.drop⟩
set_option maxRecDepth 100000 in
set_option maxHeartbeats 1000000 in
theorem cdec_pok {w0 w : World} {L : List HP} (l : List UInt8) (r1 r2 r3 : List UInt8) (e a b c d er : Int) (ps : List Int) (ts : List TX) (E : Int) (h : St w0 w L)
    (hl : l.length ≤ 1024)
    (H1 : Go.RowKit.Hid (∀ (W : World) (M : List HP), St w0 W M → Calls Try.prog 43 #[.string (Go.Proofs.YtkhcdichdnbcmaaR.Ext.mkB l), .int .i64 3] W fun ee w' => ee = .returned (.tuple #[.int .i64 1, .string (Go.Proofs.YtkhcdichdnbcmaaR.Ext.mkB r1), .bool true]) ∧ St w0 w' M))
    (H2 : Go.RowKit.Hid (∀ (W : World) (M : List HP), St w0 W M → Calls Try.prog 43 #[.string (Go.Proofs.YtkhcdichdnbcmaaR.Ext.mkB r1), .int .i64 1099511627776] W fun ee w' => ee = .returned (.tuple #[.int .i64 e, .string (Go.Proofs.YtkhcdichdnbcmaaR.Ext.mkB r2), .bool true]) ∧ St w0 w' M))
    (her : er = 0) (hr : r3 = []) (hE : E = 0)
    (HD : Go.RowKit.Hid (∀ (W : World) (M : List HP), St w0 W M → Calls Try.prog 44 #[.string (Go.Proofs.YtkhcdichdnbcmaaR.Ext.mkB r2)] W fun ee w' => ∃ A B p q n m, ee = .returned (.tuple #[.agg #[.int .i64 a, .int .i64 b, .int .i64 c, .int .i64 d, .slice A n p, .slice B m q], .string (Go.Proofs.YtkhcdichdnbcmaaR.Ext.mkB r3), .int .i64 er]) ∧ St w0 w' (RI (.slice A n p) ps :: RT (.slice B m q) ts :: M)))
    (HC : Go.RowKit.Hid (∀ (W : World) (M : List HP) (A B : Option Addr) (n m p q : Nat), St w0 W (RI (.slice A n p) ps :: RT (.slice B m q) ts :: M) → Calls Try.prog 17 #[.agg #[.int .u8 1, .int .i64 e, .int .i64 a, .int .i64 b, .int .i64 c, .int .i64 d, .slice A n p, .slice B m q, .int .i64 0]] W fun ee w' => ee = .returned (.int .i64 E) ∧ St w0 w' (RI (.slice A n p) ps :: RT (.slice B m q) ts :: M))) :
    Calls Try.prog 20 #[.string (Go.Proofs.YtkhcdichdnbcmaaR.Ext.mkB l)] w fun ee w' => ∃ A B n m p q, ee = .returned (.tuple #[.agg #[.int .u8 1, .int .i64 e, .int .i64 a, .int .i64 b, .int .i64 c, .int .i64 d, .slice A n p, .slice B m q, .int .i64 0], .int .i64 0]) ∧ St w0 w' (RI (.slice A n p) ps :: RT (.slice B m q) ts :: L) := by
  subst her
  have g1 : ((Go.Proofs.YtkhcdichdnbcmaaR.Ext.mkB r3).toList == ([] : List UInt8)) = true := by rw [toList_mkB]; subst hr; rfl
  have g2 : ((Go.Proofs.YtkhcdichdnbcmaaR.Ext.mkB r3).toList != ([] : List UInt8)) = false := by rw [toList_mkB]; subst hr; rfl
  clear hr
  have g3 : (E != 0) = false := by subst hE; rfl
  clear hE
  have hsz := mkB_size l
  have f1 : decide (1024 < ((Go.Proofs.YtkhcdichdnbcmaaR.Ext.mkB l).size : Int)) = false := decide_eq_false (by rw [hsz]; omega)
  have f2 : decide (1024 < (Go.Proofs.YtkhcdichdnbcmaaR.Ext.mkB l).size) = false := decide_eq_false (by rw [hsz]; omega)
  have f3 : (1024 < (Go.Proofs.YtkhcdichdnbcmaaR.Ext.mkB l).size) = False := eq_false (by rw [hsz]; omega)
  clear hsz hl
  have s0 := h.alloc #[.int .u8 0, .int .i64 0, .int .i64 0, .int .i64 0, .int .i64 0, .int .i64 0, .slice none 0 0, .slice none 0 0, .int .i64 0] tCm
  clear h
  have S0 := Lib.hid s0
  clear s0
  go_enter Try.func20, Try.ntmps20
  go_wp2_with fail
  generalize w.heap.size = b2 at *
  refine (H1.out _ _ S0.out).mono ?_
  rintro ee w1 ⟨rfl, s1⟩
  clear S0 H1 f1 f2 f3
  have s2 := s1.alloc #[.int .u8 1, .int .i64 0, .int .i64 0, .int .i64 0, .int .i64 0, .int .i64 0, .slice none 0 0, .slice none 0 0, .int .i64 0] tCm
  clear s1
  have S2 := Lib.hid s2
  clear s2
  go_wp2_with fail
  generalize w1.heap.size = b7 at *
  refine (H2.out _ _ S2.out).mono ?_
  rintro ee w2 ⟨rfl, s3⟩
  clear S2 H2
  have hcb7 := s3.cells
  have hfb7 := s3.free
  have s4 := s3.setb 1 (.int .i64 e) rfl
  clear s3
  have S4 := Lib.hid s4
  clear s4
  go_wp2_with fail
  refine (HD.out _ _ S4.out).mono ?_
  rintro ee w3 ⟨A, B, p, q, n, m, rfl, s5⟩
  clear S4 HD hcb7 hfb7
  have s6 := s5.pick 2
  simp only [List.getElem_cons_succ, List.getElem_cons_zero, List.eraseIdx_cons_succ, List.eraseIdx_cons_zero] at s6
  have S6 := Lib.hid s6
  clear s5 s6
  have hc6 := S6.out.cells
  have hf6 := S6.out.free
  go_wp2_with (first | ((with_reducible refine wpList_storeSt S6.out rfl _ _ 27 rfl 2 #[.int .i64 a, .int .i64 b, .int .i64 c, .int .i64 d, .slice A n p, .slice B m q] #[.int .u8 1, .int .i64 e, .int .i64 a, .int .i64 b, .int .i64 c, .int .i64 d, .slice A n p, .slice B m q, .int .i64 0] size_spec ?hn ?hx ?hv ?hf ?h1 ?he ?_); (case hn => rfl); (case hx => rfl); (case hv => rfl); (case hf => simp); (case h1 => simp [Value.oneCell']); (case he => rfl); intro w4 s7; clear hc6 hf6; have hc7 := s7.cells; have hf7 := s7.free; have S7 := Lib.hid s7; clear s7) | fail)
  have s8 := S7.out.pick 1
  simp only [List.getElem_cons_succ, List.getElem_cons_zero, List.eraseIdx_cons_succ, List.eraseIdx_cons_zero] at s8
  have s9 := s8.pick 2
  simp only [List.getElem_cons_succ, List.getElem_cons_zero, List.eraseIdx_cons_succ, List.eraseIdx_cons_zero] at s9
  have s10 := s9.pick 1
  simp only [List.getElem_cons_succ, List.getElem_cons_zero, List.eraseIdx_cons_succ, List.eraseIdx_cons_zero] at s10
  refine (HC.out _ _ _ _ _ _ _ _ s10).mono ?_
  rintro ee w5 ⟨rfl, s11⟩
  clear s8 s9 s10 S7 hc7 hf7 HC
  have s12 := s11.pick 3
  simp only [List.getElem_cons_succ, List.getElem_cons_zero, List.eraseIdx_cons_succ, List.eraseIdx_cons_zero] at s12
  have S12 := Lib.hid s12
  have hc12 := (S12.out.pick 3).cells
  clear s11 s12
  go_wp2_with (first | ((with_reducible refine wpList_storeSt S12.out rfl _ _ 29 rfl 0 #[.int .u8 1, .int .i64 e, .int .i64 a, .int .i64 b, .int .i64 c, .int .i64 d, .slice A n p, .slice B m q, .int .i64 0] #[.int .u8 1, .int .i64 e, .int .i64 a, .int .i64 b, .int .i64 c, .int .i64 d, .slice A n p, .slice B m q, .int .i64 0] size_cmd ?hn ?hx ?hv ?hf ?h1 ?he ?_); (case hn => rfl); (case hx => rfl); (case hv => rfl); (case hf => simp); (case h1 => simp [Value.oneCell']); (case he => rfl); intro wz sz; have hcz := sz.cells; have hfz := sz.free; have SZ := Lib.hid sz; clear sz)| fail)
  refine bodyPost_ret (v := .tuple #[.agg #[.int .u8 1, .int .i64 e, .int .i64 a, .int .i64 b, .int .i64 c, .int .i64 d, .slice A n p, .slice B m q, .int .i64 0], .int .i64 0]) (by simp [results, Try.results20, go_sem, hcz]) rfl ?_
  have t1 := SZ.out.drop
  have t2 := t1.pick 2
  simp only [List.getElem_cons_succ, List.getElem_cons_zero, List.eraseIdx_cons_succ, List.eraseIdx_cons_zero] at t2
  exact ⟨A, B, n, m, p, q, rfl, t2.drop⟩
set_option maxRecDepth 100000 in
set_option maxHeartbeats 1000000 in
theorem cdec_in {w0 w : World} {L : List HP} (l : List UInt8) (r1 r2 r3 : List UInt8) (k e x : Int) (h : St w0 w L)
    (hl : l.length ≤ 1024)
    (hk : 0 ≤ k ∧ k ≤ 3) (hne : k ≠ 1)
    (H1 : Go.RowKit.Hid (∀ (W : World) (M : List HP), St w0 W M → Calls Try.prog 43 #[.string (Go.Proofs.YtkhcdichdnbcmaaR.Ext.mkB l), .int .i64 3] W fun ee w' => ee = .returned (.tuple #[.int .i64 k, .string (Go.Proofs.YtkhcdichdnbcmaaR.Ext.mkB r1), .bool true]) ∧ St w0 w' M))
    (H2 : Go.RowKit.Hid (∀ (W : World) (M : List HP), St w0 W M → Calls Try.prog 43 #[.string (Go.Proofs.YtkhcdichdnbcmaaR.Ext.mkB r1), .int .i64 1099511627776] W fun ee w' => ee = .returned (.tuple #[.int .i64 e, .string (Go.Proofs.YtkhcdichdnbcmaaR.Ext.mkB r2), .bool true]) ∧ St w0 w' M))
    (H3 : Go.RowKit.Hid (∀ (W : World) (M : List HP), St w0 W M → Calls Try.prog 43 #[.string (Go.Proofs.YtkhcdichdnbcmaaR.Ext.mkB r2), .int .i64 2147483648] W fun ee w' => ee = .returned (.tuple #[.int .i64 x, .string (Go.Proofs.YtkhcdichdnbcmaaR.Ext.mkB r3), .bool false]) ∧ St w0 w' M)) :
    Calls Try.prog 20 #[.string (Go.Proofs.YtkhcdichdnbcmaaR.Ext.mkB l)] w fun ee w' => ee = .returned (.tuple #[.agg #[.int .u8 0, .int .i64 0, .int .i64 0, .int .i64 0, .int .i64 0, .int .i64 0, .slice none 0 0, .slice none 0 0, .int .i64 0], .int .i64 4]) ∧ St w0 w' L := by
  have hcv : IntKind.u8.wrap k = k := by unfold IntKind.wrap; simp [IntKind.bits, IntKind.signed]; omega
  clear hk
  have hk1 : (k == 1) = false := beq_eq_false_iff_ne.mpr hne
  have hk2 : decide (k = 1) = false := decide_eq_false hne
  have hk3 : (k = 1) = False := eq_false hne
  clear hne
  have hsz := mkB_size l
  have f1 : decide (1024 < ((Go.Proofs.YtkhcdichdnbcmaaR.Ext.mkB l).size : Int)) = false := decide_eq_false (by rw [hsz]; omega)
  have f2 : decide (1024 < (Go.Proofs.YtkhcdichdnbcmaaR.Ext.mkB l).size) = false := decide_eq_false (by rw [hsz]; omega)
  have f3 : (1024 < (Go.Proofs.YtkhcdichdnbcmaaR.Ext.mkB l).size) = False := eq_false (by rw [hsz]; omega)
  clear hsz hl
  have s0 := h.alloc #[.int .u8 0, .int .i64 0, .int .i64 0, .int .i64 0, .int .i64 0, .int .i64 0, .slice none 0 0, .slice none 0 0, .int .i64 0] tCm
  clear h
  have S0 := Lib.hid s0
  clear s0
  go_enter Try.func20, Try.ntmps20
  go_wp2_with fail
  generalize w.heap.size = b2 at *
  refine (H1.out _ _ S0.out).mono ?_
  rintro ee w1 ⟨rfl, s1⟩
  clear S0 H1 f1 f2 f3
  have s2 := s1.alloc #[.int .u8 k, .int .i64 0, .int .i64 0, .int .i64 0, .int .i64 0, .int .i64 0, .slice none 0 0, .slice none 0 0, .int .i64 0] tCm
  clear s1
  have S2 := Lib.hid s2
  clear s2
  go_wp2_with fail
  generalize w1.heap.size = b7 at *
  refine (H2.out _ _ S2.out).mono ?_
  rintro ee w2 ⟨rfl, s3⟩
  clear S2 H2
  have hcb7 := s3.cells
  have hfb7 := s3.free
  have s4 := s3.setb 1 (.int .i64 e) rfl
  clear s3
  have S4 := Lib.hid s4
  clear s4
  go_wp2_with fail
  refine (H3.out _ _ S4.out).mono ?_
  rintro ee w3 ⟨rfl, s5⟩
  clear S4 H3 hcb7 hfb7
  have hc5 := s5.cells
  have hf5 := s5.free
  have s6 := s5.setb 8 (.int .i64 x) rfl
  clear s5
  have s7 := s6.pick 1
  simp only [List.getElem_cons_succ, List.getElem_cons_zero, List.eraseIdx_cons_succ, List.eraseIdx_cons_zero] at s7
  have S7 := Lib.hid s7
  clear s6 s7
  go_wp2_with (first | ((with_reducible refine wpList_storeSt S7.out rfl _ _ 29 rfl 0 #[.int .u8 0, .int .i64 0, .int .i64 0, .int .i64 0, .int .i64 0, .int .i64 0, .slice none 0 0, .slice none 0 0, .int .i64 0] #[.int .u8 0, .int .i64 0, .int .i64 0, .int .i64 0, .int .i64 0, .int .i64 0, .slice none 0 0, .slice none 0 0, .int .i64 0] size_cmd ?hn ?hx ?hv ?hf ?h1 ?he ?_); (case hn => rfl); (case hx => rfl); (case hv => rfl); (case hf => simp); (case h1 => simp [Value.oneCell']); (case he => rfl); intro wz sz; have hcz := sz.cells; have hfz := sz.free; have SZ := Lib.hid sz; clear sz) | fail)
  refine bodyPost_ret (v := .tuple #[.agg #[.int .u8 0, .int .i64 0, .int .i64 0, .int .i64 0, .int .i64 0, .int .i64 0, .slice none 0 0, .slice none 0 0, .int .i64 0], .int .i64 4]) (by simp [results, Try.results20, go_sem, hcz]) rfl ?_
  exact ⟨rfl, SZ.out.drop.drop⟩
set_option maxRecDepth 100000 in
set_option maxHeartbeats 1000000 in
theorem cdec_ir {w0 w : World} {L : List HP} (l : List UInt8) (r1 r2 r3 : List UInt8) (k e x : Int) (h : St w0 w L)
    (hl : l.length ≤ 1024)
    (hk : 0 ≤ k ∧ k ≤ 3) (hne : k ≠ 1)
    (H1 : Go.RowKit.Hid (∀ (W : World) (M : List HP), St w0 W M → Calls Try.prog 43 #[.string (Go.Proofs.YtkhcdichdnbcmaaR.Ext.mkB l), .int .i64 3] W fun ee w' => ee = .returned (.tuple #[.int .i64 k, .string (Go.Proofs.YtkhcdichdnbcmaaR.Ext.mkB r1), .bool true]) ∧ St w0 w' M))
    (H2 : Go.RowKit.Hid (∀ (W : World) (M : List HP), St w0 W M → Calls Try.prog 43 #[.string (Go.Proofs.YtkhcdichdnbcmaaR.Ext.mkB r1), .int .i64 1099511627776] W fun ee w' => ee = .returned (.tuple #[.int .i64 e, .string (Go.Proofs.YtkhcdichdnbcmaaR.Ext.mkB r2), .bool true]) ∧ St w0 w' M))
    (H3 : Go.RowKit.Hid (∀ (W : World) (M : List HP), St w0 W M → Calls Try.prog 43 #[.string (Go.Proofs.YtkhcdichdnbcmaaR.Ext.mkB r2), .int .i64 2147483648] W fun ee w' => ee = .returned (.tuple #[.int .i64 x, .string (Go.Proofs.YtkhcdichdnbcmaaR.Ext.mkB r3), .bool true]) ∧ St w0 w' M))
    (hr : r3 ≠ []) :
    Calls Try.prog 20 #[.string (Go.Proofs.YtkhcdichdnbcmaaR.Ext.mkB l)] w fun ee w' => ee = .returned (.tuple #[.agg #[.int .u8 0, .int .i64 0, .int .i64 0, .int .i64 0, .int .i64 0, .int .i64 0, .slice none 0 0, .slice none 0 0, .int .i64 0], .int .i64 4]) ∧ St w0 w' L := by
  have hcv : IntKind.u8.wrap k = k := by unfold IntKind.wrap; simp [IntKind.bits, IntKind.signed]; omega
  clear hk
  have hk1 : (k == 1) = false := beq_eq_false_iff_ne.mpr hne
  have hk2 : decide (k = 1) = false := decide_eq_false hne
  have hk3 : (k = 1) = False := eq_false hne
  clear hne
  have g1 : ((Go.Proofs.YtkhcdichdnbcmaaR.Ext.mkB r3).toList == ([] : List UInt8)) = false := by rw [toList_mkB]; exact beq_eq_false_iff_ne.mpr hr
  have g2 : ((Go.Proofs.YtkhcdichdnbcmaaR.Ext.mkB r3).toList != ([] : List UInt8)) = true := by rw [toList_mkB]; exact bne_iff_ne.mpr hr
  clear hr
  have hsz := mkB_size l
  have f1 : decide (1024 < ((Go.Proofs.YtkhcdichdnbcmaaR.Ext.mkB l).size : Int)) = false := decide_eq_false (by rw [hsz]; omega)
  have f2 : decide (1024 < (Go.Proofs.YtkhcdichdnbcmaaR.Ext.mkB l).size) = false := decide_eq_false (by rw [hsz]; omega)
  have f3 : (1024 < (Go.Proofs.YtkhcdichdnbcmaaR.Ext.mkB l).size) = False := eq_false (by rw [hsz]; omega)
  clear hsz hl
  have s0 := h.alloc #[.int .u8 0, .int .i64 0, .int .i64 0, .int .i64 0, .int .i64 0, .int .i64 0, .slice none 0 0, .slice none 0 0, .int .i64 0] tCm
  clear h
  have S0 := Lib.hid s0
  clear s0
  go_enter Try.func20, Try.ntmps20
  go_wp2_with fail
  generalize w.heap.size = b2 at *
  refine (H1.out _ _ S0.out).mono ?_
  rintro ee w1 ⟨rfl, s1⟩
  clear S0 H1 f1 f2 f3
  have s2 := s1.alloc #[.int .u8 k, .int .i64 0, .int .i64 0, .int .i64 0, .int .i64 0, .int .i64 0, .slice none 0 0, .slice none 0 0, .int .i64 0] tCm
  clear s1
  have S2 := Lib.hid s2
  clear s2
  go_wp2_with fail
  generalize w1.heap.size = b7 at *
  refine (H2.out _ _ S2.out).mono ?_
  rintro ee w2 ⟨rfl, s3⟩
  clear S2 H2
  have hcb7 := s3.cells
  have hfb7 := s3.free
  have s4 := s3.setb 1 (.int .i64 e) rfl
  clear s3
  have S4 := Lib.hid s4
  clear s4
  go_wp2_with fail
  refine (H3.out _ _ S4.out).mono ?_
  rintro ee w3 ⟨rfl, s5⟩
  clear S4 H3 hcb7 hfb7
  have hc5 := s5.cells
  have hf5 := s5.free
  have s6 := s5.setb 8 (.int .i64 x) rfl
  clear s5
  have s7 := s6.pick 1
  simp only [List.getElem_cons_succ, List.getElem_cons_zero, List.eraseIdx_cons_succ, List.eraseIdx_cons_zero] at s7
  have S7 := Lib.hid s7
  clear s6 s7
  go_wp2_with (first | ((with_reducible refine wpList_storeSt S7.out rfl _ _ 29 rfl 0 #[.int .u8 0, .int .i64 0, .int .i64 0, .int .i64 0, .int .i64 0, .int .i64 0, .slice none 0 0, .slice none 0 0, .int .i64 0] #[.int .u8 0, .int .i64 0, .int .i64 0, .int .i64 0, .int .i64 0, .int .i64 0, .slice none 0 0, .slice none 0 0, .int .i64 0] size_cmd ?hn ?hx ?hv ?hf ?h1 ?he ?_); (case hn => rfl); (case hx => rfl); (case hv => rfl); (case hf => simp); (case h1 => simp [Value.oneCell']); (case he => rfl); intro wz sz; have hcz := sz.cells; have hfz := sz.free; have SZ := Lib.hid sz; clear sz) | fail)
  refine bodyPost_ret (v := .tuple #[.agg #[.int .u8 0, .int .i64 0, .int .i64 0, .int .i64 0, .int .i64 0, .int .i64 0, .slice none 0 0, .slice none 0 0, .int .i64 0], .int .i64 4]) (by simp [results, Try.results20, go_sem, hcz]) rfl ?_
  exact ⟨rfl, SZ.out.drop.drop⟩
set_option maxRecDepth 100000 in
set_option maxHeartbeats 1000000 in
theorem cdec_ic {w0 w : World} {L : List HP} (l : List UInt8) (r1 r2 r3 : List UInt8) (k e x : Int) (E : Int) (h : St w0 w L)
    (hl : l.length ≤ 1024)
    (hk : 0 ≤ k ∧ k ≤ 3) (hne : k ≠ 1)
    (H1 : Go.RowKit.Hid (∀ (W : World) (M : List HP), St w0 W M → Calls Try.prog 43 #[.string (Go.Proofs.YtkhcdichdnbcmaaR.Ext.mkB l), .int .i64 3] W fun ee w' => ee = .returned (.tuple #[.int .i64 k, .string (Go.Proofs.YtkhcdichdnbcmaaR.Ext.mkB r1), .bool true]) ∧ St w0 w' M))
    (H2 : Go.RowKit.Hid (∀ (W : World) (M : List HP), St w0 W M → Calls Try.prog 43 #[.string (Go.Proofs.YtkhcdichdnbcmaaR.Ext.mkB r1), .int .i64 1099511627776] W fun ee w' => ee = .returned (.tuple #[.int .i64 e, .string (Go.Proofs.YtkhcdichdnbcmaaR.Ext.mkB r2), .bool true]) ∧ St w0 w' M))
    (H3 : Go.RowKit.Hid (∀ (W : World) (M : List HP), St w0 W M → Calls Try.prog 43 #[.string (Go.Proofs.YtkhcdichdnbcmaaR.Ext.mkB r2), .int .i64 2147483648] W fun ee w' => ee = .returned (.tuple #[.int .i64 x, .string (Go.Proofs.YtkhcdichdnbcmaaR.Ext.mkB r3), .bool true]) ∧ St w0 w' M))
    (hr : r3 = []) (hE : E ≠ 0)
    (HC : Go.RowKit.Hid (∀ (W : World) (M : List HP), St w0 W M → Calls Try.prog 17 #[.agg #[.int .u8 k, .int .i64 e, .int .i64 0, .int .i64 0, .int .i64 0, .int .i64 0, .slice none 0 0, .slice none 0 0, .int .i64 x]] W fun ee w' => ee = .returned (.int .i64 E) ∧ St w0 w' M)) :
    Calls Try.prog 20 #[.string (Go.Proofs.YtkhcdichdnbcmaaR.Ext.mkB l)] w fun ee w' => ee = .returned (.tuple #[.agg #[.int .u8 0, .int .i64 0, .int .i64 0, .int .i64 0, .int .i64 0, .int .i64 0, .slice none 0 0, .slice none 0 0, .int .i64 0], .int .i64 4]) ∧ St w0 w' L := by
  have hcv : IntKind.u8.wrap k = k := by unfold IntKind.wrap; simp [IntKind.bits, IntKind.signed]; omega
  clear hk
  have hk1 : (k == 1) = false := beq_eq_false_iff_ne.mpr hne
  have hk2 : decide (k = 1) = false := decide_eq_false hne
  have hk3 : (k = 1) = False := eq_false hne
  clear hne
  have g1 : ((Go.Proofs.YtkhcdichdnbcmaaR.Ext.mkB r3).toList == ([] : List UInt8)) = true := by rw [toList_mkB]; subst hr; rfl
  have g2 : ((Go.Proofs.YtkhcdichdnbcmaaR.Ext.mkB r3).toList != ([] : List UInt8)) = false := by rw [toList_mkB]; subst hr; rfl
  clear hr
  have g3 : (E != 0) = true := bne_iff_ne.mpr hE
  clear hE
  have hsz := mkB_size l
  have f1 : decide (1024 < ((Go.Proofs.YtkhcdichdnbcmaaR.Ext.mkB l).size : Int)) = false := decide_eq_false (by rw [hsz]; omega)
  have f2 : decide (1024 < (Go.Proofs.YtkhcdichdnbcmaaR.Ext.mkB l).size) = false := decide_eq_false (by rw [hsz]; omega)
  have f3 : (1024 < (Go.Proofs.YtkhcdichdnbcmaaR.Ext.mkB l).size) = False := eq_false (by rw [hsz]; omega)
  clear hsz hl
  have s0 := h.alloc #[.int .u8 0, .int .i64 0, .int .i64 0, .int .i64 0, .int .i64 0, .int .i64 0, .slice none 0 0, .slice none 0 0, .int .i64 0] tCm
  clear h
  have S0 := Lib.hid s0
  clear s0
  go_enter Try.func20, Try.ntmps20
  go_wp2_with fail
  generalize w.heap.size = b2 at *
  refine (H1.out _ _ S0.out).mono ?_
  rintro ee w1 ⟨rfl, s1⟩
  clear S0 H1 f1 f2 f3
  have s2 := s1.alloc #[.int .u8 k, .int .i64 0, .int .i64 0, .int .i64 0, .int .i64 0, .int .i64 0, .slice none 0 0, .slice none 0 0, .int .i64 0] tCm
  clear s1
  have S2 := Lib.hid s2
  clear s2
  go_wp2_with fail
  generalize w1.heap.size = b7 at *
  refine (H2.out _ _ S2.out).mono ?_
  rintro ee w2 ⟨rfl, s3⟩
  clear S2 H2
  have hcb7 := s3.cells
  have hfb7 := s3.free
  have s4 := s3.setb 1 (.int .i64 e) rfl
  clear s3
  have S4 := Lib.hid s4
  clear s4
  go_wp2_with fail
  refine (H3.out _ _ S4.out).mono ?_
  rintro ee w3 ⟨rfl, s5⟩
  clear S4 H3 hcb7 hfb7
  have hc5 := s5.cells
  have hf5 := s5.free
  have s6 := s5.setb 8 (.int .i64 x) rfl
  clear s5
  have S6 := Lib.hid s6
  clear s6
  go_wp2_with fail
  refine (HC.out _ _ S6.out).mono ?_
  rintro ee w5 ⟨rfl, s7⟩
  clear S6 hc5 hf5 HC
  have hc7 := s7.cells
  have s8 := s7.pick 1
  simp only [List.getElem_cons_succ, List.getElem_cons_zero, List.eraseIdx_cons_succ, List.eraseIdx_cons_zero] at s8
  have S8 := Lib.hid s8
  clear s7 s8
  go_wp2_with (first | ((with_reducible refine wpList_storeSt S8.out rfl _ _ 29 rfl 0 #[.int .u8 0, .int .i64 0, .int .i64 0, .int .i64 0, .int .i64 0, .int .i64 0, .slice none 0 0, .slice none 0 0, .int .i64 0] #[.int .u8 0, .int .i64 0, .int .i64 0, .int .i64 0, .int .i64 0, .int .i64 0, .slice none 0 0, .slice none 0 0, .int .i64 0] size_cmd ?hn ?hx ?hv ?hf ?h1 ?he ?_); (case hn => rfl); (case hx => rfl); (case hv => rfl); (case hf => simp); (case h1 => simp [Value.oneCell']); (case he => rfl); intro wz sz; have hcz := sz.cells; have hfz := sz.free; have SZ := Lib.hid sz; clear sz) | fail)
  refine bodyPost_ret (v := .tuple #[.agg #[.int .u8 0, .int .i64 0, .int .i64 0, .int .i64 0, .int .i64 0, .int .i64 0, .slice none 0 0, .slice none 0 0, .int .i64 0], .int .i64 4]) (by simp [results, Try.results20, go_sem, hcz]) rfl ?_
  exact ⟨rfl, SZ.out.drop.drop⟩
set_option maxRecDepth 100000 in
set_option maxHeartbeats 1000000 in
theorem cdec_iok {w0 w : World} {L : List HP} (l : List UInt8) (r1 r2 r3 : List UInt8) (k e x : Int) (E : Int) (h : St w0 w L)
    (hl : l.length ≤ 1024)
    (hk : 0 ≤ k ∧ k ≤ 3) (hne : k ≠ 1)
    (H1 : Go.RowKit.Hid (∀ (W : World) (M : List HP), St w0 W M → Calls Try.prog 43 #[.string (Go.Proofs.YtkhcdichdnbcmaaR.Ext.mkB l), .int .i64 3] W fun ee w' => ee = .returned (.tuple #[.int .i64 k, .string (Go.Proofs.YtkhcdichdnbcmaaR.Ext.mkB r1), .bool true]) ∧ St w0 w' M))
    (H2 : Go.RowKit.Hid (∀ (W : World) (M : List HP), St w0 W M → Calls Try.prog 43 #[.string (Go.Proofs.YtkhcdichdnbcmaaR.Ext.mkB r1), .int .i64 1099511627776] W fun ee w' => ee = .returned (.tuple #[.int .i64 e, .string (Go.Proofs.YtkhcdichdnbcmaaR.Ext.mkB r2), .bool true]) ∧ St w0 w' M))
    (H3 : Go.RowKit.Hid (∀ (W : World) (M : List HP), St w0 W M → Calls Try.prog 43 #[.string (Go.Proofs.YtkhcdichdnbcmaaR.Ext.mkB r2), .int .i64 2147483648] W fun ee w' => ee = .returned (.tuple #[.int .i64 x, .string (Go.Proofs.YtkhcdichdnbcmaaR.Ext.mkB r3), .bool true]) ∧ St w0 w' M))
    (hr : r3 = []) (hE : E = 0)
    (HC : Go.RowKit.Hid (∀ (W : World) (M : List HP), St w0 W M → Calls Try.prog 17 #[.agg #[.int .u8 k, .int .i64 e, .int .i64 0, .int .i64 0, .int .i64 0, .int .i64 0, .slice none 0 0, .slice none 0 0, .int .i64 x]] W fun ee w' => ee = .returned (.int .i64 E) ∧ St w0 w' M)) :
    Calls Try.prog 20 #[.string (Go.Proofs.YtkhcdichdnbcmaaR.Ext.mkB l)] w fun ee w' => ee = .returned (.tuple #[.agg #[.int .u8 k, .int .i64 e, .int .i64 0, .int .i64 0, .int .i64 0, .int .i64 0, .slice none 0 0, .slice none 0 0, .int .i64 x], .int .i64 0]) ∧ St w0 w' L := by
  have hcv : IntKind.u8.wrap k = k := by unfold IntKind.wrap; simp [IntKind.bits, IntKind.signed]; omega
  clear hk
  have hk1 : (k == 1) = false := beq_eq_false_iff_ne.mpr hne
  have hk2 : decide (k = 1) = false := decide_eq_false hne
  have hk3 : (k = 1) = False := eq_false hne
  clear hne
  have g1 : ((Go.Proofs.YtkhcdichdnbcmaaR.Ext.mkB r3).toList == ([] : List UInt8)) = true := by rw [toList_mkB]; subst hr; rfl
  have g2 : ((Go.Proofs.YtkhcdichdnbcmaaR.Ext.mkB r3).toList != ([] : List UInt8)) = false := by rw [toList_mkB]; subst hr; rfl
  clear hr
  have g3 : (E != 0) = false := by subst hE; rfl
  clear hE
  have hsz := mkB_size l
  have f1 : decide (1024 < ((Go.Proofs.YtkhcdichdnbcmaaR.Ext.mkB l).size : Int)) = false := decide_eq_false (by rw [hsz]; omega)
  have f2 : decide (1024 < (Go.Proofs.YtkhcdichdnbcmaaR.Ext.mkB l).size) = false := decide_eq_false (by rw [hsz]; omega)
  have f3 : (1024 < (Go.Proofs.YtkhcdichdnbcmaaR.Ext.mkB l).size) = False := eq_false (by rw [hsz]; omega)
  clear hsz hl
  have s0 := h.alloc #[.int .u8 0, .int .i64 0, .int .i64 0, .int .i64 0, .int .i64 0, .int .i64 0, .slice none 0 0, .slice none 0 0, .int .i64 0] tCm
  clear h
  have S0 := Lib.hid s0
  clear s0
  go_enter Try.func20, Try.ntmps20
  go_wp2_with fail
  generalize w.heap.size = b2 at *
  refine (H1.out _ _ S0.out).mono ?_
  rintro ee w1 ⟨rfl, s1⟩
  clear S0 H1 f1 f2 f3
  have s2 := s1.alloc #[.int .u8 k, .int .i64 0, .int .i64 0, .int .i64 0, .int .i64 0, .int .i64 0, .slice none 0 0, .slice none 0 0, .int .i64 0] tCm
  clear s1
  have S2 := Lib.hid s2
  clear s2
  go_wp2_with fail
  generalize w1.heap.size = b7 at *
  refine (H2.out _ _ S2.out).mono ?_
  rintro ee w2 ⟨rfl, s3⟩
  clear S2 H2
  have hcb7 := s3.cells
  have hfb7 := s3.free
  have s4 := s3.setb 1 (.int .i64 e) rfl
  clear s3
  have S4 := Lib.hid s4
  clear s4
  go_wp2_with fail
  refine (H3.out _ _ S4.out).mono ?_
  rintro ee w3 ⟨rfl, s5⟩
  clear S4 H3 hcb7 hfb7
  have hc5 := s5.cells
  have hf5 := s5.free
  have s6 := s5.setb 8 (.int .i64 x) rfl
  clear s5
  have S6 := Lib.hid s6
  clear s6
  go_wp2_with fail
  refine (HC.out _ _ S6.out).mono ?_
  rintro ee w5 ⟨rfl, s7⟩
  clear S6 hc5 hf5 HC
  have hc7 := s7.cells
  have s8 := s7.pick 1
  simp only [List.getElem_cons_succ, List.getElem_cons_zero, List.eraseIdx_cons_succ, List.eraseIdx_cons_zero] at s8
  have S8 := Lib.hid s8
  clear s7 s8
  go_wp2_with (first | ((with_reducible refine wpList_storeSt S8.out rfl _ _ 29 rfl 0 #[.int .u8 k, .int .i64 e, .int .i64 0, .int .i64 0, .int .i64 0, .int .i64 0, .slice none 0 0, .slice none 0 0, .int .i64 x] #[.int .u8 k, .int .i64 e, .int .i64 0, .int .i64 0, .int .i64 0, .int .i64 0, .slice none 0 0, .slice none 0 0, .int .i64 x] size_cmd ?hn ?hx ?hv ?hf ?h1 ?he ?_); (case hn => rfl); (case hx => rfl); (case hv => rfl); (case hf => simp); (case h1 => simp [Value.oneCell']); (case he => rfl); intro wz sz; have hcz := sz.cells; have hfz := sz.free; have SZ := Lib.hid sz; clear sz) | fail)
  refine bodyPost_ret (v := .tuple #[.agg #[.int .u8 k, .int .i64 e, .int .i64 0, .int .i64 0, .int .i64 0, .int .i64 0, .slice none 0 0, .slice none 0 0, .int .i64 x], .int .i64 0]) (by simp [results, Try.results20, go_sem, hcz]) rfl ?_
  exact ⟨rfl, SZ.out.drop.drop⟩
theorem chk9_nil {w0 w : World} {L : List HP} (k e id : Int) (h : St w0 w L) (r : Int) (hr : Sp.cmdE ⟨k, e, zSP, id⟩ = r) :
    Calls Try.prog 17 #[.agg #[.int .u8 k, .int .i64 e, .int .i64 0, .int .i64 0, .int .i64 0, .int .i64 0, .slice none 0 0, .slice none 0 0, .int .i64 id]] w fun e w' => e = .returned (.int .i64 r) ∧ St w0 w' L := by
  refine (cmd_Check.calls k e 0 0 0 0 none 0 [] none 0 [] id r w (Kd.C_nil _ _) (Nat.le_refl _) (Kd.C_nil _ _) (Nat.le_refl _) (by unfold cmd_Check.f; rw [← hr]; rfl)).mono ?_
  rintro e w' ⟨rfl, hb⟩
  exact ⟨rfl, h.more hb⟩
theorem back_map (l : List TS) : (l.map ofTS).map toTS = l := by
  rw [List.map_map]
  have : (toTS ∘ ofTS) = id := by funext x; rfl
  rw [this, List.map_id]
theorem spOf_of (s : SP) : spOf s.id s.cpu s.mem s.disk s.ports (s.tasks.map ofTS) = s := by unfold spOf; rw [back_map]
/-- What Decode hands back, over objects. -/
def Dec9 (w0 : World) (L : List HP) (x : CM) (er : Int) (ee : Ending) (w' : World) : Prop := ∃ A B n m p q, ee = .returned (.tuple #[.agg #[.int .u8 x.kind, .int .i64 x.epoch, .int .i64 x.spec.id, .int .i64 x.spec.cpu, .int .i64 x.spec.mem, .int .i64 x.spec.disk, .slice A n p, .slice B m q, .int .i64 x.id], .int .i64 er]) ∧ St w0 w' (RI (.slice A n p) x.spec.ports :: RT (.slice B m q) (x.spec.tasks.map ofTS) :: L)
theorem Dec9.zero {w0 w' : World} {L : List HP} {er : Int} {ee : Ending} (h : ee = .returned (.tuple #[.agg #[.int .u8 0, .int .i64 0, .int .i64 0, .int .i64 0, .int .i64 0, .int .i64 0, .slice none 0 0, .slice none 0 0, .int .i64 0], .int .i64 er]) ∧ St w0 w' L) : Dec9 w0 L zCM er ee w' := by
  obtain ⟨rfl, s⟩ := h
  exact ⟨none, none, 0, 0, 0, 0, rfl, St.rowKNil (flat_int _) (St.rowKNil kX_flat s)⟩
theorem tailP_1 (l : List UInt8) : tailP 1 l = (decS l).map fun x => ((x.1, 0), x.2) := rfl
/-- Decode of any bytes. -/
theorem dec9 {w0 w : World} {L : List HP} (l : List UInt8) (x : CM) (er : Int) (hx : decCR l = (x, er)) (h : St w0 w L) : Calls Try.prog 20 #[.string (Go.Proofs.YtkhcdichdnbcmaaR.Ext.mkB l)] w (Dec9 w0 L x er) := by
  by_cases hl : 1024 < l.length
  · unfold decCR at hx
    rw [if_pos hl] at hx
    obtain ⟨rfl, rfl⟩ := Prod.mk.inj hx
    exact (cdec_long l h hl).mono fun _ _ => Dec9.zero
  have hl : l.length ≤ 1024 := by omega
  have hx2 : (match decC l with | some (c, []) => (c, 0) | _ => (zCM, 4)) = (x, er) := by unfold decCR at hx; rw [if_neg (by omega)] at hx; exact hx
  clear hx
  unfold decC rdC wholeP headP seqP at hx2
  have ht : ∀ most : Int, ∀ l, numT most l = match numL most l with | some (n, r) => (n, r, true) | none => (0, [], false) := fun _ _ => rfl
  have N3 := fun (n : Int) (r : List UInt8) (o : Bool) (hq : numT 3 l = (n, r, o)) => Lib.hid (fun (W : World) (M : List HP) (hs : St w0 W M) => number_s 3 (by omega) (by omega) l n r o hq hs)
  cases h1 : numL 3 l with
  | none =>
    rw [h1] at hx2
    simp only [Option.bind_none, Option.map_none] at hx2
    obtain ⟨rfl, rfl⟩ := Prod.mk.inj hx2
    exact (cdec_k l h hl (N3 _ _ _ (by rw [ht, h1]))).mono fun _ _ => Dec9.zero
  | some y =>
    obtain ⟨k, r1⟩ := y
    rw [h1] at hx2
    have hk := ((num_codec (most := 3) (by omega) _ _ _).1 h1).1
    have N4 := fun (n : Int) (r : List UInt8) (o : Bool) (hq : numT 1099511627776 r1 = (n, r, o)) => Lib.hid (fun (W : World) (M : List HP) (hs : St w0 W M) => number_s 1099511627776 (by omega) (by omega) r1 n r o hq hs)
    have N3 := N3 k r1 true (by rw [ht, h1])
    simp only [Option.bind_some] at hx2
    cases h2 : numL 1099511627776 r1 with
    | none =>
      rw [h2] at hx2
      simp only [Option.map_none, Option.bind_none] at hx2
      obtain ⟨rfl, rfl⟩ := Prod.mk.inj hx2
      exact (cdec_e l k r1 h hl hk N3 (N4 _ _ _ (by rw [ht, h2]))).mono fun _ _ => Dec9.zero
    | some y =>
      obtain ⟨e, r2⟩ := y
      rw [h2] at hx2
      have N4 := N4 e r2 true (by rw [ht, h2])
      simp only [Option.map_some, Option.bind_some] at hx2
      by_cases hk1 : k = 1
      · subst hk1
        rw [tailP_1] at hx2
        cases h3 : decS r2 with
        | none =>
          rw [h3] at hx2
          simp only [Option.map_none, Option.bind_none] at hx2
          obtain ⟨rfl, rfl⟩ := Prod.mk.inj hx2
          have hd : decR r2 = (⟨0, 0, 0, 0, [], []⟩, [], 4) := by unfold decR; rw [h3]; rfl
          exact (cdec_ps l r1 r2 [] e 0 0 0 0 4 [] [] h hl N3 N4 (by omega) (Lib.hid (fun W M hs => dec_s r2 0 0 0 0 [] [] [] 4 hd hs))).mono fun _ _ => Dec9.zero
        | some y =>
          obtain ⟨⟨a, b, c, d, ps, ts⟩, r3⟩ := y
          rw [h3] at hx2
          simp only [Option.map_some, Option.bind_some, toCM] at hx2
          have hd : decR r2 = (⟨a, b, c, d, ps, ts⟩, r3, 0) := by unfold decR; rw [h3]
          have HD := Lib.hid (fun (W : World) (M : List HP) (hs : St w0 W M) => dec_s r2 a b c d ps ts r3 0 hd hs)
          by_cases hr : r3 = []
          · subst hr
            have hc : ∀ (W : World) (M : List HP) (A B : Option Addr) (n m p q : Nat), St w0 W (RI (.slice A n p) ps :: RT (.slice B m q) (ts.map ofTS) :: M) → _ := fun W M A B n m p q hs => chk9_s 1 e a b c d 0 ps (ts.map ofTS) hs (cmdE ⟨1, e, ⟨a, b, c, d, ps, ts⟩, 0⟩) (by have := spOf_of ⟨a, b, c, d, ps, ts⟩; rw [show spOf a b c d ps (ts.map ofTS) = ⟨a, b, c, d, ps, ts⟩ from this])
            by_cases hE : cmdE ⟨1, e, ⟨a, b, c, d, ps, ts⟩, 0⟩ = 0
            · rw [if_pos ((okC_iff _).2 hE)] at hx2
              obtain ⟨rfl, rfl⟩ := Prod.mk.inj hx2
              exact cdec_pok l r1 r2 [] e a b c d 0 ps (ts.map ofTS) _ h hl N3 N4 rfl rfl hE HD (Lib.hid hc)
            · rw [if_neg (fun q => hE ((okC_iff _).1 q))] at hx2
              obtain ⟨rfl, rfl⟩ := Prod.mk.inj hx2
              exact (cdec_pc l r1 r2 [] e a b c d 0 ps (ts.map ofTS) _ h hl N3 N4 rfl rfl hE HD (Lib.hid hc)).mono fun _ _ => Dec9.zero
          · have hx3 : (zCM, (4 : Int)) = (x, er) := by
              rw [← hx2]
              split
              · rename_i heq
                split at heq
                · injection heq with heq
                  injection heq with _ heq
                  exact absurd heq hr
                · cases heq
              · rfl
            obtain ⟨rfl, rfl⟩ := Prod.mk.inj hx3
            exact (cdec_pr l r1 r2 r3 e a b c d 0 ps (ts.map ofTS) h hl N3 N4 rfl hr HD).mono fun _ _ => Dec9.zero
      · have htp : tailP k r2 = (numL 2147483648 r2).map fun x => ((zSP, x.1), x.2) := by unfold tailP; rw [if_neg hk1]
        rw [htp] at hx2
        have N5 := fun (n : Int) (r : List UInt8) (o : Bool) (hq : numT 2147483648 r2 = (n, r, o)) => Lib.hid (fun (W : World) (M : List HP) (hs : St w0 W M) => number_s 2147483648 (by omega) (by omega) r2 n r o hq hs)
        cases h3 : numL 2147483648 r2 with
        | none =>
          rw [h3] at hx2
          simp only [Option.map_none, Option.bind_none] at hx2
          obtain ⟨rfl, rfl⟩ := Prod.mk.inj hx2
          exact (cdec_in l r1 r2 [] k e 0 h hl hk hk1 N3 N4 (N5 _ _ _ (by rw [ht, h3]))).mono fun _ _ => Dec9.zero
        | some y =>
          obtain ⟨i, r3⟩ := y
          rw [h3] at hx2
          simp only [Option.map_some, Option.bind_some, toCM] at hx2
          have N5 := N5 i r3 true (by rw [ht, h3])
          by_cases hr : r3 = []
          · subst hr
            have hc := fun (W : World) (M : List HP) (hs : St w0 W M) => chk9_nil k e i hs (cmdE ⟨k, e, zSP, i⟩) rfl
            by_cases hE : cmdE ⟨k, e, zSP, i⟩ = 0
            · rw [if_pos ((okC_iff _).2 hE)] at hx2
              obtain ⟨rfl, rfl⟩ := Prod.mk.inj hx2
              refine (cdec_iok l r1 r2 [] k e i _ h hl hk hk1 N3 N4 N5 rfl hE (Lib.hid hc)).mono ?_
              rintro ee w' ⟨rfl, s⟩
              exact ⟨none, none, 0, 0, 0, 0, rfl, St.rowKNil (flat_int _) (St.rowKNil kX_flat s)⟩
            · rw [if_neg (fun q => hE ((okC_iff _).1 q))] at hx2
              obtain ⟨rfl, rfl⟩ := Prod.mk.inj hx2
              exact (cdec_ic l r1 r2 [] k e i _ h hl hk hk1 N3 N4 N5 rfl hE (Lib.hid hc)).mono fun _ _ => Dec9.zero
          · have hx3 : (zCM, (4 : Int)) = (x, er) := by
              rw [← hx2]
              split
              · rename_i heq
                split at heq
                · injection heq with heq
                  injection heq with _ heq
                  exact absurd heq hr
                · cases heq
              · rfl
            obtain ⟨rfl, rfl⟩ := Prod.mk.inj hx3
            exact (cdec_ir l r1 r2 r3 k e i h hl hk hk1 N3 N4 N5 hr).mono fun _ _ => Dec9.zero
end Go.Proofs.YtkhcdichdnbcmaaR
end

section
/- Plain laws of printed functions: EqualSpec, EqualCommand, Few. -/
namespace Go.Proofs.YtkhcdichdnbcmaaR.PureC
open Go.RowKit Go.Proofs.YtkhcdichdnbcmaaR Go.Proofs.YtkhcdichdnbcmaaR.Ext Go.Proofs.YtkhcdichdnbcmaaR.C Go.Proofs.YtkhcdichdnbcmaaRW.PrintWords Go.Proofs.YtkhcdichdnbcmaaRW.PrintLast Go.Proofs.YtkhcdichdnbcmaaRW.PrintMore
open Go.Proofs.YtkhcdichdnbcmaaR.Sp
set_option linter.unusedVariables false
set_option linter.unusedSimpArgs false

theorem w1 {i : Nat} (h : i ≤ 1000) : wrap64 ((i : Int) + 1) = ((i + 1 : Nat) : Int) := by unfold wrap64; omega
theorem rd_at (l : List Int) (i : Nat) (h : i < l.length) : rd l (i : Int) = l[i] := by simp [rd, h]
theorem rdT_at (l : List (S90)) (i : Nat) (h : i < l.length) : rd_T90 l (i : Int) = l[i] := by simp [rd_T90, h]
theorem drop_y {α : Type} (xs ys : List α) (i : Nat) (hx : i < xs.length) (hy : i < ys.length) (h : xs[i] = ys[i]) : (xs.drop i = ys.drop i) ↔ (xs.drop (i + 1) = ys.drop (i + 1)) := by
  rw [List.drop_eq_getElem_cons hx, List.drop_eq_getElem_cons hy, List.cons.injEq]; exact ⟨fun q => q.2, fun q => ⟨h, q⟩⟩
theorem drop_n {α : Type} (xs ys : List α) (i : Nat) (hx : i < xs.length) (hy : i < ys.length) (h : ¬ xs[i] = ys[i]) : ¬ (xs.drop i = ys.drop i) := by
  rw [List.drop_eq_getElem_cons hx, List.drop_eq_getElem_cons hy, List.cons.injEq]; exact fun q => h q.1
theorem eqInts_l0 (xs ys : List Int) (hl : xs.length = ys.length) (hm : xs.length ≤ 1000) (d : Nat) : ∀ k i : Nat, i + d = xs.length → d < k → sacristankit_EqualInts.l0 k xs ys i = some (decide (xs.drop i = ys.drop i)) := by
  induction d with
  | zero =>
    intro k i hi hk
    obtain ⟨k, rfl⟩ : ∃ m, k = m + 1 := ⟨k - 1, by omega⟩
    simp only [sacristankit_EqualInts.l0]
    rw [if_neg (by omega), List.drop_eq_nil_of_le (by omega), List.drop_eq_nil_of_le (by omega)]
    simp
  | succ d ih =>
    intro k i hi hk
    obtain ⟨k, rfl⟩ : ∃ m, k = m + 1 := ⟨k - 1, by omega⟩
    simp only [sacristankit_EqualInts.l0]
    rw [if_pos (by omega), if_pos (by omega), if_pos (by omega), rd_at xs i (by omega), rd_at ys i (by omega)]
    by_cases h : xs[i] = ys[i]
    · rw [if_pos h, w1 (by omega), ih k (i + 1) (by omega) (by omega), decide_eq_decide.2 (drop_y xs ys i (by omega) (by omega) h)]
    · rw [if_neg h, decide_eq_false (drop_n xs ys i (by omega) (by omega) h)]
theorem eqInts (k : Nat) (xs ys : List Int) (hm : xs.length ≤ 1000) (hk : xs.length < k) : sacristankit_EqualInts.f k xs ys = some (decide (xs = ys)) := by
  unfold sacristankit_EqualInts.f
  by_cases h : xs.length = ys.length
  · rw [if_pos (by omega)]
    have := eqInts_l0 xs ys h hm xs.length k 0 (by omega) hk
    simpa using this
  · rw [if_neg (by omega)]
    have : ¬ xs = ys := fun e => h (by rw [e])
    simp [this]
theorem cond_ne (x y : S90) : ((!(x.f0.f0 == y.f0.f0) || (!(x.f0.f1 == y.f0.f1) || (!(x.f0.f2 == y.f0.f2) || (!(x.f0.f3 == y.f0.f3) || (!(x.f0.f4 == y.f0.f4)))))) || (!(x.f1 == y.f1))) = !decide (toTS x = toTS y) := by
  rw [Bool.eq_iff_iff]
  simp [toTS, -Bool.not_eq_eq_eq_not]
  grind
theorem eqTs_l0 (xs ys : List (S90)) (hl : xs.length = ys.length) (hm : xs.length ≤ 1000) (d : Nat) : ∀ k i : Nat, i + d = xs.length → d < k → sacristankit_EqualTaskSpecs.l0 k xs ys i = some (decide ((xs.drop i).map toTS = (ys.drop i).map toTS)) := by
  induction d with
  | zero =>
    intro k i hi hk
    obtain ⟨k, rfl⟩ : ∃ m, k = m + 1 := ⟨k - 1, by omega⟩
    simp only [sacristankit_EqualTaskSpecs.l0]
    rw [if_neg (by omega), List.drop_eq_nil_of_le (by omega), List.drop_eq_nil_of_le (by omega)]
    simp
  | succ d ih =>
    intro k i hi hk
    obtain ⟨k, rfl⟩ : ∃ m, k = m + 1 := ⟨k - 1, by omega⟩
    simp only [sacristankit_EqualTaskSpecs.l0]
    rw [if_pos (by omega), if_pos (by omega), if_pos (by omega), cond_ne, rdT_at xs i (by omega), rdT_at ys i (by omega)]
    by_cases h : toTS xs[i] = toTS ys[i]
    · rw [if_neg (by simp [h]), w1 (by omega), ih k (i + 1) (by omega) (by omega), List.map_drop, List.map_drop, List.map_drop, List.map_drop, decide_eq_decide.2 (drop_y (xs.map toTS) (ys.map toTS) i (by rw [List.length_map]; omega) (by rw [List.length_map]; omega) (by simpa using h))]
    · rw [if_pos (by simp [h]), List.map_drop, List.map_drop, decide_eq_false (drop_n (xs.map toTS) (ys.map toTS) i (by rw [List.length_map]; omega) (by rw [List.length_map]; omega) (by simpa using h))]
theorem eqTs (k : Nat) (xs ys : List (S90)) (hm : xs.length ≤ 1000) (hk : xs.length < k) : sacristankit_EqualTaskSpecs.f k xs ys = some (decide (xs.map toTS = ys.map toTS)) := by
  unfold sacristankit_EqualTaskSpecs.f
  by_cases h : xs.length = ys.length
  · rw [if_pos (by omega)]
    have := eqTs_l0 xs ys h hm xs.length k 0 (by omega) hk
    simpa using this
  · rw [if_neg (by omega)]
    have : ¬ xs.map toTS = ys.map toTS := fun e => h (by have := congrArg List.length e; simpa using this)
    simp [this]
theorem spOf_eq (a b c d a' b' c' d' : Int) (l l' : List Int) (m m' : List (S90)) : (spOf a b c d l m = spOf a' b' c' d' l' m') ↔ a = a' ∧ (b = b' ∧ c = c' ∧ d = d') ∧ l = l' ∧ m.map toTS = m'.map toTS := by
  unfold spOf
  simp only [SP.mk.injEq]
  constructor
  · rintro ⟨h1, h2, h3, h4, h5, h6⟩; exact ⟨h1, ⟨h2, h3, h4⟩, h5, h6⟩
  · rintro ⟨h1, ⟨h2, h3, h4⟩, h5, h6⟩; exact ⟨h1, h2, h3, h4, h5, h6⟩
theorem eqSpec (k : Nat) (a b c d a' b' c' d' : Int) (l l' : List Int) (m m' : List (S90)) (h1 : l.length ≤ 1000) (h2 : m.length ≤ 1000) (k1 : l.length < k) (k2 : m.length < k) :
    sacristankit_EqualSpec.f k a b c d l m a' b' c' d' l' m' = some (decide (spOf a b c d l m = spOf a' b' c' d' l' m')) := by
  unfold sacristankit_EqualSpec.f
  rw [eqInts k l l' h1 k1, eqTs k m m' h2 k2]
  simp only [Option.bind_some]
  by_cases q1 : a = a'
  · by_cases q2 : (b == b' && (c == c' && (d == d'))) = true
    · rw [if_pos q1, if_pos q2]
      simp only [Bool.and_eq_true, beq_iff_eq] at q2
      by_cases q3 : l = l'
      · simp [spOf_eq, q1, q2, q3]
      · simp [spOf_eq, q1, q2, q3]
    · rw [if_pos q1, if_neg q2]
      simp only [Bool.and_eq_true, beq_iff_eq] at q2
      have : ¬ spOf a b c d l m = spOf a' b' c' d' l' m' := fun e => q2 ((spOf_eq _ _ _ _ _ _ _ _ _ _ _ _).1 e).2.1
      simp [this]
  · rw [if_neg q1]
    have : ¬ spOf a b c d l m = spOf a' b' c' d' l' m' := fun e => q1 ((spOf_eq _ _ _ _ _ _ _ _ _ _ _ _).1 e).1
    simp [this]
theorem mn_nat (n m : Nat) : mn (n : Int) (m : Int) = ((min n m : Nat) : Int) := by unfold mn; split <;> omega
theorem few (a b c d : Int) (l : List Int) (m : List (S90)) : sacristanlaw13_Few.f a b c d l m = some (a, b, c, d, l.take 20, m.take 10) := by
  unfold sacristanlaw13_Few.f
  have e1 := mn_nat l.length 20
  have e2 := mn_nat m.length 10
  have e1 : mn (l.length : Int) 20 = ((min l.length 20 : Nat) : Int) := e1
  have e2 : mn (m.length : Int) 10 = ((min m.length 10 : Nat) : Int) := e2
  rw [e1, e2, if_pos (by omega), if_pos (by omega), Int.toNat_natCast, Int.toNat_natCast]
  have t1 : l.take (min l.length 20) = l.take 20 := by rw [List.take_eq_take_iff]; omega
  have t2 : m.take (min m.length 10) = m.take 10 := by rw [List.take_eq_take_iff]; omega
  rw [t1, t2]
  unfold sacristankit_CopyInts.f sacristankit_CopyTaskSpecs.f
  rw [if_pos (by rw [List.length_take]; omega), Option.bind_some, if_pos (by omega), if_pos (by omega), if_pos (by simp; omega), Option.bind_some]
  simp
theorem eqCmd (k : Nat) (x0 x1 a b c d x8 y0 y1 a' b' c' d' y8 : Int) (l l' : List Int) (m m' : List (S90)) (h1 : l.length ≤ 1000) (h2 : m.length ≤ 1000) (k1 : l.length < k) (k2 : m.length < k) :
    sacristankit_EqualCommand.f k x0 x1 a b c d l m x8 y0 y1 a' b' c' d' l' m' y8 = some (decide ((⟨x0, x1, spOf a b c d l m, x8⟩ : CM) = ⟨y0, y1, spOf a' b' c' d' l' m', y8⟩)) := by
  unfold sacristankit_EqualCommand.f
  rw [eqSpec k a b c d a' b' c' d' l l' m m' h1 h2 k1 k2]
  simp only [Option.bind_some, CM.mk.injEq]
  grind
end Go.Proofs.YtkhcdichdnbcmaaR.PureC
namespace Go.Proofs.YtkhcdichdnbcmaaR
open Go.RowKit Go.Proofs.YtkhcdichdnbcmaaR Go.Proofs.YtkhcdichdnbcmaaR.Ext Go.Proofs.YtkhcdichdnbcmaaR.C Go.Proofs.YtkhcdichdnbcmaaR.Sp Go.Proofs.YtkhcdichdnbcmaaRW.PrintWords Go.Proofs.YtkhcdichdnbcmaaRW.PrintLast
set_option linter.unusedVariables false
set_option linter.unusedSimpArgs false
theorem few_a {w0 w : World} {L : List HP} (a b c d : Int) {A B : Option Addr} {n m p q : Nat} (ps : List Int) (ts : List TX) (c1 : Kd.C (Kd.int .i64) w0 A ps.length ps) (e1 : n = ps.length) (l1 : n ≤ p) (c2 : Kd.C k90 w0 B ts.length ts) (e2 : m = ts.length) (l2 : m ≤ q) : FewOf w0 L a b c d A B n m p q (ps.take 20) (ts.take 10) := by
  intro W P Q h
  subst e1; subst e2
  refine (sacristanlaw13_Few.calls a b c d A p ps B q ts _ _ _ _ _ _ W (Kd.C_below c1 h.bel) l1 (Kd.C_below c2 h.bel) l2 (PureC.few a b c d ps ts)).mono ?_
  rintro e w' ⟨v4, v5, rfl, h4, h5, hb⟩
  obtain ⟨A, n, c, rfl⟩ := R_slice3 h4
  obtain ⟨B, m, d, rfl⟩ := R_slice3 h5
  exact ⟨A, B, c, d, n, m, rfl, h.rows2 (flat_int _) kX_flat (by decide) hb h4 h5⟩
theorem few_s {w0 : World} {L : List HP} (a b c d : Int) {A B : Option Addr} {n m p q : Nat} (ps : List Int) (ts : List TX) (hp : ps.length ≤ 20) (ht : ts.length ≤ 10) : FewOf w0 (RI (.slice A n p) ps :: RT (.slice B m q) ts :: L) a b c d A B n m p q ps ts := by
  intro W P Q h
  obtain ⟨c1, e1, l1⟩ := (h.pick 2).rowKC
  obtain ⟨c2, e2, l2⟩ := (h.pick 3).rowKC
  subst e1; subst e2
  have hf := PureC.few a b c d ps ts
  rw [List.take_of_length_le hp, List.take_of_length_le ht] at hf
  refine (sacristanlaw13_Few.calls a b c d A p ps B q ts _ _ _ _ _ _ W c1 l1 c2 l2 hf).mono ?_
  rintro e w' ⟨v4, v5, rfl, h4, h5, hb⟩
  obtain ⟨A', n, c, rfl⟩ := R_slice3 h4
  obtain ⟨B', m, d, rfl⟩ := R_slice3 h5
  exact ⟨A', B', c, d, n, m, rfl, h.rows2 (flat_int _) kX_flat (by decide) hb h4 h5⟩
/-- EqualCommand of what lies in four rows. -/
theorem equ9_s {w0 w : World} {L : List HP} (x0 x1 a b c d x8 y0 y1 a' b' c' d' y8 : Int) {A B A' B' : Option Addr} {n m p q n' m' p' q' : Nat} (ps ps' : List Int) (ts ts' : List TX) (hp : ps.length ≤ 1000) (ht : ts.length ≤ 1000) (r : Bool) (hr : decide ((⟨x0, x1, spOf a b c d ps ts, x8⟩ : CM) = ⟨y0, y1, spOf a' b' c' d' ps' ts', y8⟩) = r)
    (h : St w0 w (RI (.slice A n p) ps :: RT (.slice B m q) ts :: RI (.slice A' n' p') ps' :: RT (.slice B' m' q') ts' :: L)) :
    Calls Try.prog 19 #[.agg #[.int .u8 x0, .int .i64 x1, .int .i64 a, .int .i64 b, .int .i64 c, .int .i64 d, .slice A n p, .slice B m q, .int .i64 x8], .agg #[.int .u8 y0, .int .i64 y1, .int .i64 a', .int .i64 b', .int .i64 c', .int .i64 d', .slice A' n' p', .slice B' m' q', .int .i64 y8]] w fun e w' => e = .returned (.bool r) ∧ St w0 w' (RI (.slice A n p) ps :: RT (.slice B m q) ts :: RI (.slice A' n' p') ps' :: RT (.slice B' m' q') ts' :: L) := by
  obtain ⟨c1, e1, l1⟩ := h.rowKC
  obtain ⟨c2, e2, l2⟩ := (h.pick 1).rowKC
  obtain ⟨c3, e3, l3⟩ := (h.pick 2).rowKC
  obtain ⟨c4, e4, l4⟩ := (h.pick 3).rowKC
  subst e1; subst e2; subst e3; subst e4; subst hr
  refine (sacristankit_EqualCommand.calls 1001 x0 x1 a b c d A p ps B q ts x8 y0 y1 a' b' c' d' A' p' ps' B' q' ts' y8 _ w c1 l1 c2 l2 c3 l3 c4 l4 (PureC.eqCmd 1001 _ _ _ _ _ _ _ _ _ _ _ _ _ _ _ _ _ _ hp ht (by omega) (by omega))).mono ?_
  rintro e w' ⟨rfl, hb⟩
  exact ⟨rfl, h.more hb⟩
/-- EqualCommand of what lies in two rows and a command without rows. -/
theorem equ9_n {w0 w : World} {L : List HP} (x0 x1 a b c d x8 y0 y1 y8 : Int) {A B : Option Addr} {n m p q : Nat} (ps : List Int) (ts : List TX) (hp : ps.length ≤ 1000) (ht : ts.length ≤ 1000) (r : Bool) (hr : decide ((⟨x0, x1, spOf a b c d ps ts, x8⟩ : CM) = ⟨y0, y1, zSP, y8⟩) = r)
    (h : St w0 w (RI (.slice A n p) ps :: RT (.slice B m q) ts :: L)) :
    Calls Try.prog 19 #[.agg #[.int .u8 x0, .int .i64 x1, .int .i64 a, .int .i64 b, .int .i64 c, .int .i64 d, .slice A n p, .slice B m q, .int .i64 x8], .agg #[.int .u8 y0, .int .i64 y1, .int .i64 0, .int .i64 0, .int .i64 0, .int .i64 0, .slice none 0 0, .slice none 0 0, .int .i64 y8]] w fun e w' => e = .returned (.bool r) ∧ St w0 w' (RI (.slice A n p) ps :: RT (.slice B m q) ts :: L) := by
  obtain ⟨c1, e1, l1⟩ := h.rowKC
  obtain ⟨c2, e2, l2⟩ := (h.pick 1).rowKC
  subst e1; subst e2; subst hr
  refine (sacristankit_EqualCommand.calls 1001 x0 x1 a b c d A p ps B q ts x8 y0 y1 0 0 0 0 none 0 [] none 0 [] y8 _ w c1 l1 c2 l2 (Kd.C_nil _ _) (Nat.le_refl _) (Kd.C_nil _ _) (Nat.le_refl _) (PureC.eqCmd 1001 _ _ _ _ _ _ _ _ _ _ _ _ _ _ _ _ _ _ hp ht (by omega) (by omega))).mono ?_
  rintro e w' ⟨rfl, hb⟩
  exact ⟨rfl, h.more hb⟩
/-- Bytes that are all 0, as a string. -/
def zeros (n : Nat) : List UInt8 := List.replicate n 0
theorem conv_zeros (n : Nat) (w : World) (t : Nat) (hn : n ≤ 100000) : (convert 46 9 (.slice (some ⟨w.heap.size, 0, none⟩) n n)).run Try.prog (w.alloc (.cells (Array.replicate n (.int .u8 0)) t)) = .ok (.string (Go.Proofs.YtkhcdichdnbcmaaR.Ext.mkB (zeros n))) (w.alloc (.cells (Array.replicate n (.int .u8 0)) t)) := by
  have q : strOfNums (List.replicate n 0) = Go.Proofs.YtkhcdichdnbcmaaR.Ext.mkB (zeros n) := by
    unfold strOfNums zeros
    simp
    rfl
  rw [← q]
  refine string_of_reads (e := 5) Try.underlying46 Try.underlying5 Try.underlying9 ⟨by simp, by omega, fun _ => ⟨_, rfl, fun j hj => ?_⟩⟩
  rw [add_plain, World.cell?_alloc_new]
  simp [hj]
theorem info_u8 : (Try.prog.info? 5).map (fun i => (i.zero, i.size, i.bytes)) = some (some (.int .u8 0), 1, 1) := by kernel_rfl
theorem make_zeros (n : Nat) (hn : n ≤ 100000) (w : World) : (Instr.makeSlice 46 (.int .i64 n) (.int .i64 n)).run Try.prog w = .ok (.slice (some ⟨w.heap.size, 0, none⟩) n n) (w.alloc (.cells (Array.replicate n (.int .u8 0)) 5)) := by
  have hi := info_u8
  cases hj : Try.prog.info? 5 with
  | none => rw [hj] at hi; cases hi
  | some i =>
    rw [hj] at hi
    simp only [Option.map_some, Option.some.injEq, Prod.mk.injEq] at hi
    have q := run_make (P := Try.prog) w 46 5 i (.int .u8 0) Try.underlying46 hj hi.1 .i64 .i64 n n (by omega) (by omega) (by rw [hi.2.2]; omega) (by omega)
    rw [q, hi.2.1, Int.toNat_natCast]
    have e : madeCells (Value.int .u8 0).cells (n * 1) = Array.replicate n (.int .u8 0) := by
      apply Array.toList_inj.1
      rw [Nat.mul_one]
      exact (toList_madeCells_one _ _).trans (by simp)
    rw [e]
end Go.Proofs.YtkhcdichdnbcmaaR
end

section
/- awake of the statements on commands. -/
namespace Go.Proofs.YtkhcdichdnbcmaaR
open Go.RowKit Go.Proofs.YtkhcdichdnbcmaaR Go.Proofs.YtkhcdichdnbcmaaR.Ext Go.Proofs.YtkhcdichdnbcmaaR.C Go.Proofs.YtkhcdichdnbcmaaR.Sp Go.Proofs.YtkhcdichdnbcmaaRW.PrintWords Go.Proofs.YtkhcdichdnbcmaaRW.PrintLast
set_option linter.unusedVariables false
set_option linter.unusedSimpArgs false
theorem enc9_nil {w0 w : World} {L : List HP} (k e id : Int) (h : St w0 w L) (x : List UInt8) (r : Int) (hx : Sp.encCR ⟨k, e, zSP, id⟩ = x) (hr : Sp.cmdE ⟨k, e, zSP, id⟩ = r) :
    Calls Try.prog 13 #[.agg #[.int .u8 k, .int .i64 e, .int .i64 0, .int .i64 0, .int .i64 0, .int .i64 0, .slice none 0 0, .slice none 0 0, .int .i64 id]] w fun e w' => e = .returned (.tuple #[.string (Go.Proofs.YtkhcdichdnbcmaaR.Ext.mkB x), .int .i64 r]) ∧ St w0 w' L := by
  subst hx; subst hr
  refine (cmd_Encode.calls k e 0 0 0 0 none 0 [] none 0 [] id _ _ w (Kd.C_nil _ _) (Nat.le_refl _) (Kd.C_nil _ _) (Nat.le_refl _) rfl).mono ?_
  rintro e w' ⟨rfl, hb⟩
  exact ⟨rfl, h.more hb⟩
theorem dec9c {w0 w : World} {L : List HP} (l : List UInt8) (k e a b c d : Int) (ps : List Int) (ts : List TS) (id er : Int) (hx : decCR l = (⟨k, e, ⟨a, b, c, d, ps, ts⟩, id⟩, er)) (h : St w0 w L) : Calls Try.prog 20 #[.string (Go.Proofs.YtkhcdichdnbcmaaR.Ext.mkB l)] w fun ee w' => ∃ A B n m p q, ee = .returned (.tuple #[.agg #[.int .u8 k, .int .i64 e, .int .i64 a, .int .i64 b, .int .i64 c, .int .i64 d, .slice A n p, .slice B m q, .int .i64 id], .int .i64 er]) ∧ St w0 w' (RI (.slice A n p) ps :: RT (.slice B m q) (ts.map ofTS) :: L) := dec9 l _ er hx h
theorem aw_enc : Sp.encCR ⟨2, 3, zSP, 7⟩ = [2, 3, 7] := by decide +kernel
theorem aw_dec : decCR [2, 3, 7] = (⟨2, 3, ⟨0, 0, 0, 0, [], []⟩, 7⟩, 0) := by decide +kernel
theorem aw_bad : decCR [2, 3, 7, 120] = (⟨0, 0, ⟨0, 0, 0, 0, [], []⟩, 0⟩, 4) := by decide +kernel
theorem aw_long (n : Nat) (hn : 1024 < n) : decCR (zeros n) = (⟨0, 0, ⟨0, 0, 0, 0, [], []⟩, 0⟩, 5) := by
  unfold decCR zeros
  rw [if_pos (by simp; omega)]
  rfl
set_option maxRecDepth 100000 in
set_option maxHeartbeats 4000000 in
theorem awake18 {w0 w : World} {L : List HP} (h : St w0 w L) : Calls Try.prog 15 #[] w fun e w' => e = .returned (.bool true) ∧ St w0 w' L := by
  have hx1 : Go.Proofs.YtkhcdichdnbcmaaR.Ext.mkB [2, 3, 7] ++ (⟨#[120]⟩ : ByteArray) = Go.Proofs.YtkhcdichdnbcmaaR.Ext.mkB [2, 3, 7, 120] := rfl
  have hx2 : (Go.Proofs.YtkhcdichdnbcmaaR.Ext.mkB [2, 3, 7]).size = 3 := rfl
  have hx3 : (⟨#[120]⟩ : ByteArray).size = 1 := rfl
  have hv2 := var_c 2 (by omega)
  have hv3 := var_c 3 (by omega)
  have hv7 := var_c 7 (by omega)
  rw [show Pk.varL 2 = [2] by decide +kernel] at hv2
  rw [show Pk.varL 3 = [3] by decide +kernel] at hv3
  rw [show Pk.varL 7 = [7] by decide +kernel] at hv7
  have HV := Lib.hid (And.intro hv2 (And.intro hv3 hv7))
  clear hv2 hv3 hv7
  have hy1 : Go.Proofs.YtkhcdichdnbcmaaR.Ext.mkB [2] ++ Go.Proofs.YtkhcdichdnbcmaaR.Ext.mkB [3] = Go.Proofs.YtkhcdichdnbcmaaR.Ext.mkB [2, 3] := rfl
  have hy2 : Go.Proofs.YtkhcdichdnbcmaaR.Ext.mkB [2, 3] ++ Go.Proofs.YtkhcdichdnbcmaaR.Ext.mkB [7] = Go.Proofs.YtkhcdichdnbcmaaR.Ext.mkB [2, 3, 7] := rfl
  have hy3 : (Go.Proofs.YtkhcdichdnbcmaaR.Ext.mkB [2]).size = 1 := rfl
  have hy4 : (Go.Proofs.YtkhcdichdnbcmaaR.Ext.mkB [3]).size = 1 := rfl
  have hy5 : (Go.Proofs.YtkhcdichdnbcmaaR.Ext.mkB [7]).size = 1 := rfl
  have hy6 : (Go.Proofs.YtkhcdichdnbcmaaR.Ext.mkB [2, 3]).size = 2 := rfl
  have H := Lib.hid h
  clear h
  go_enter Try.func15, Try.ntmps15
  go_wp2_with fail
  refine (enc9_nil 2 3 7 H.out _ 0 aw_enc (by decide +kernel)).mono ?_
  rintro ee w1 ⟨rfl, s1⟩
  clear H
  have S1 := Lib.hid s1
  clear s1
  go_wp2_with fail
  refine (dec9c [2, 3, 7] _ _ _ _ _ _ _ _ _ _ aw_dec S1.out).mono ?_
  rintro ee w2 ⟨A, B, n, m, p, q, rfl, s2⟩
  clear S1
  have s3 := s2.alloc #[.int .u8 2, .int .i64 3, .int .i64 0, .int .i64 0, .int .i64 0, .int .i64 0, .slice A n p, .slice B m q, .int .i64 7] tCm
  clear s2
  have S3 := Lib.hid s3
  clear s3
  go_wp2_with fail
  generalize w2.heap.size = b3 at *
  refine (dec9c [2, 3, 7, 120] _ _ _ _ _ _ _ _ _ _ aw_bad S3.out).mono ?_
  rintro ee w3 ⟨A1, B1, n1, m1, p1, q1, rfl, s4⟩
  clear S3 hx1 hx2 hx3
  have s5 := (s4.drop.drop.alloc #[.int .u8 0, .int .i64 0, .int .i64 0, .int .i64 0, .int .i64 0, .int .i64 0, .slice A1 n1 p1, .slice B1 m1 q1, .int .i64 0] tCm).drop
  clear s4
  go_upto_region 4 with fail
  obtain ⟨wa, ha⟩ : ∃ wa, wa = w3.alloc (Obj.cells #[.int .u8 0, .int .i64 0, .int .i64 0, .int .i64 0, .int .i64 0, .int .i64 0, .slice A1 n1 p1, .slice B1 m1 q1, .int .i64 0] tCm) := ⟨_, rfl⟩
  rw [← ha] at s5 ⊢
  clear ha
  have hcv := conv_zeros 1025 wa 5 (by omega)
  have hmk : ∀ W, (Instr.makeSlice 46 (.int .i64 1025) (.int .i64 1025)).run Try.prog W = .ok (.slice (some ⟨W.heap.size, 0, none⟩) 1025 1025) (W.alloc (.cells (Array.replicate 1025 (.int .u8 0)) 5)) := fun W => make_zeros 1025 (by omega) W
  have s6 := (s5.alloc (Array.replicate 1025 (.int .u8 0)) 5).drop
  clear s5
  have S6 := Lib.hid s6
  clear s6
  go_wp2_with fail
  clear hcv hmk
  refine (dec9c (zeros 1025) _ _ _ _ _ _ _ _ _ _ (aw_long 1025 (by omega)) S6.out).mono ?_
  rintro ee w4 ⟨A2, B2, n2, m2, p2, q2, rfl, s7⟩
  clear S6
  have s8 := (s7.drop.drop.alloc #[.int .u8 0, .int .i64 0, .int .i64 0, .int .i64 0, .int .i64 0, .int .i64 0, .slice A2 n2 p2, .slice B2 m2 q2, .int .i64 0] tCm).drop
  clear s7
  have S8 := Lib.hid s8
  clear s8
  go_wp2_with fail
  refine (HV.out.1 _).mono ?_
  rintro ee w5 ⟨rfl, hb⟩
  have S9 := Lib.hid (S8.out.more hb)
  clear hb S8
  go_wp2_with fail
  refine (HV.out.2.1 _).mono ?_
  rintro ee w6 ⟨rfl, hb⟩
  have S10 := Lib.hid (S9.out.more hb)
  clear hb S9
  go_wp2_with fail
  refine (HV.out.2.2 _).mono ?_
  rintro ee w7 ⟨rfl, hb⟩
  have S11 := Lib.hid (S10.out.more hb)
  clear hb S10 HV
  have hc := S11.out.cells
  go_wp2_with fail
  have s12 := S11.out.pick 2
  simp only [List.getElem_cons_succ, List.getElem_cons_zero, List.eraseIdx_cons_succ, List.eraseIdx_cons_zero] at s12
  have s13 := s12.pick 2
  simp only [List.getElem_cons_succ, List.getElem_cons_zero, List.eraseIdx_cons_succ, List.eraseIdx_cons_zero] at s13
  refine (equ9_n 2 3 0 0 0 0 7 2 3 7 [] [] (by simp) (by simp) true (by decide +kernel) s13).mono ?_
  rintro ee w8 ⟨rfl, s14⟩
  clear s12 s13 S11 hc
  have S14 := Lib.hid s14.drop.drop.drop
  clear s14
  go_wp2_with fail
  refine (chk9_nil 0 0 0 S14.out 2 (by decide +kernel)).mono ?_
  rintro ee x0 ⟨rfl, s⟩
  clear S14
  have S15 := Lib.hid s
  clear s
  go_wp2_with fail
  refine (chk9_nil 2 (-1) 0 S15.out 3 (by decide +kernel)).mono ?_
  rintro ee x1 ⟨rfl, s⟩
  clear S15
  have S16 := Lib.hid s
  clear s
  go_wp2_with fail
  refine (chk9_nil 1 0 1 S16.out 2 (by decide +kernel)).mono ?_
  rintro ee x2 ⟨rfl, s⟩
  clear S16
  have S17 := Lib.hid s
  clear s
  go_wp2_with fail
  refine (chk9_nil 1 0 0 S17.out 2 (by decide +kernel)).mono ?_
  rintro ee x3 ⟨rfl, s⟩
  clear S17
  have S18 := Lib.hid s
  clear s
  go_wp2
  go_returns
  exact ⟨rfl, S18.out⟩
end Go.Proofs.YtkhcdichdnbcmaaR
end

section
/- What lies in the arguments, as the printed texts read it. -/
namespace Go.Proofs.YtkhcdichdnbcmaaR
open Go.RowKit Go.Proofs.YtkhcdichdnbcmaaR Go.Proofs.YtkhcdichdnbcmaaR.Ext Go.Proofs.YtkhcdichdnbcmaaR.C Go.Proofs.YtkhcdichdnbcmaaRW.PrintWords Go.Proofs.YtkhcdichdnbcmaaRW.PrintLast
set_option linter.unusedVariables false
set_option linter.unusedSimpArgs false

def toE (x : E90) : S90 := ⟨⟨x.f0, x.f1, x.f2, x.f3, x.f4⟩, x.f5⟩
theorem readsI {w : World} {A : Option Addr} {cap : Nat} {l : List Int} (h : SL24 w A cap l) : Kd.C (Kd.int .i64) w A l.length l ∧ l.length ≤ cap := by
  obtain ⟨h1, h2, h3⟩ := h
  have hm : maxLen ≤ 9223372036854775807 := by decide
  refine ⟨Kd.C_of_reads (d := (0 : Int)) ⟨rfl, by omega, fun hp => ?_⟩, h1⟩
  rcases h3 with rfl | ⟨b, off, rfl, hb, hc⟩
  · simp at hp
  refine ⟨_, rfl, fun j hj => ?_⟩
  have ha : (Addr.mk b off none).add j = ⟨b, off + j, none⟩ := by unfold Addr.add; split <;> simp_all
  rw [ha]
  exact (hc j hj).1
theorem readsT {w : World} {A : Option Addr} {cap : Nat} {l : List E90} (h : SL25 w A cap l) : Kd.C k90 w A (l.map toE).length (l.map toE) ∧ (l.map toE).length ≤ cap := by
  obtain ⟨h1, h2, h3⟩ := h
  have hm : maxLen ≤ 9223372036854775807 := by decide
  refine ⟨⟨rfl, by rw [List.length_map]; omega, fun hp => ?_⟩, by rw [List.length_map]; exact h1⟩
  rw [List.length_map] at hp
  rcases h3 with rfl | ⟨b, off, rfl, hb, hc⟩
  · simp at hp
  refine ⟨_, rfl, fun j p hj => ?_⟩
  obtain ⟨hl, rfl⟩ := List.getElem?_eq_some_iff.1 hj
  rw [List.length_map] at hl
  obtain ⟨c0, c1, _, c2, _, c3, _, c4, _, c5, _⟩ := hc j hl
  have hr : rdE90 l j = l[j] := by simp [rdE90, hl]
  rw [hr] at c0 c1 c2 c3 c4 c5
  have he : (l.map toE)[j] = toE l[j] := by simp
  refine ⟨[.bool (l[j]).f0, .int .i64 (l[j]).f1, .int .i64 (l[j]).f2, .int .i64 (l[j]).f3, .int .i64 (l[j]).f4, .int .i64 (l[j]).f5], rfl, ?_, fun i u hu => ?_⟩
  · rw [he]; exact k90_mk w (toE l[j])
  · have ha : ∀ n, (Addr.mk b off none).add n = ⟨b, off + n, none⟩ := fun n => by unfold Addr.add; split <;> simp_all
    show w.cell? ((Addr.mk b off none).add (j * 6 + i)) = _
    rw [ha, ← Nat.add_assoc]
    match i, hu with
    | 0, hu => injection hu with hu; subst hu; exact c0
    | 1, hu => injection hu with hu; subst hu; exact c1
    | 2, hu => injection hu with hu; subst hu; exact c2
    | 3, hu => injection hu with hu; subst hu; exact c3
    | 4, hu => injection hu with hu; subst hu; exact c4
    | 5, hu => injection hu with hu; subst hu; exact c5
    | i + 6, hu => simp at hu
end Go.Proofs.YtkhcdichdnbcmaaR
end

section
/- The walk of CmdBack. -/
namespace Go.Proofs.YtkhcdichdnbcmaaR
open Go.RowKit Go.Proofs.YtkhcdichdnbcmaaR Go.Proofs.YtkhcdichdnbcmaaR.Ext Go.Proofs.YtkhcdichdnbcmaaR.C Go.Proofs.YtkhcdichdnbcmaaR.Sp Go.Proofs.YtkhcdichdnbcmaaRW.PrintWords Go.Proofs.YtkhcdichdnbcmaaRW.PrintLast
set_option linter.unusedVariables false
set_option linter.unusedSimpArgs false
theorem slice_to (l : List UInt8) (m : Nat) (hm : m ≤ l.length) (W : World) : (Instr.slice 9 (.string (Go.Proofs.YtkhcdichdnbcmaaR.Ext.mkB l)) none (some (.int .i64 (m : Int))) none).run Try.prog W = .ok (.string (Go.Proofs.YtkhcdichdnbcmaaR.Ext.mkB (l.take m))) W := by
  have hs : (Go.Proofs.YtkhcdichdnbcmaaR.Ext.mkB l).size = l.length := mkB_size l
  have he : (Go.Proofs.YtkhcdichdnbcmaaR.Ext.mkB l).extract 0 m = Go.Proofs.YtkhcdichdnbcmaaR.Ext.mkB (l.take m) := by
    apply ByteArray.ext
    simp [Go.Proofs.YtkhcdichdnbcmaaR.Ext.mkB, ByteArray.data_extract, List.extract_eq_take_drop]
  simp [go_sem, hs, Instr.slice]
  rw [if_pos (by omega)]
  simp [he]
set_option maxRecDepth 100000 in
set_option maxHeartbeats 16000000 in
theorem back_5 (k e a b c d id k' e' a' b' c' d' id' : Int) (A B A' B' : Option Addr) (n m p q n' m' p' q' : Nat) (ps ps' : List Int) (ts ts' : List TX) (t S : List UInt8) (X Y : List UInt8) (E1 E2 : Int) (w : World)
    (hF1 : ∀ L, FewOf w L a b c d A B n m p q ps ts) (hF2 : ∀ L, FewOf w L a' b' c' d' A' B' n' m' p' q' ps' ts') (hS : t.take (min t.length 1100) = S) (hps : ps.length ≤ 20) (hts : ts.length ≤ 10) (hps' : ps'.length ≤ 20) (hts' : ts'.length ≤ 10)
    (hX : Sp.encCR (⟨k, e, spOf a b c d ps ts, id⟩ : CM) = X) (hE1 : Sp.cmdE (⟨k, e, spOf a b c d ps ts, id⟩ : CM) = E1) (hY : Sp.encCR (⟨k', e', spOf a' b' c' d' ps' ts', id'⟩ : CM) = Y) (hE2 : Sp.cmdE (⟨k', e', spOf a' b' c' d' ps' ts', id'⟩ : CM) = E2)
    (hDX : E1 = 0 → ∀ (W : World) (M : List HP), St w W M → Calls Try.prog 20 #[.string (Go.Proofs.YtkhcdichdnbcmaaR.Ext.mkB X)] W fun ee w' => ∃ A B n m p q, ee = .returned (.tuple #[.agg #[.int .u8 k, .int .i64 e, .int .i64 a, .int .i64 b, .int .i64 c, .int .i64 d, .slice A n p, .slice B m q, .int .i64 id], .int .i64 0]) ∧ St w w' (RI (.slice A n p) ps :: RT (.slice B m q) ts :: M))
    (hEq : E1 = 0 → E2 = 0 → ∀ N : Nat, N = min X.length Y.length → (((Go.Proofs.YtkhcdichdnbcmaaR.Ext.mkB (X.take N)).toList == (Go.Proofs.YtkhcdichdnbcmaaR.Ext.mkB (Y.take N)).toList) = decide ((⟨k, e, spOf a b c d ps ts, id⟩ : CM) = (⟨k', e', spOf a' b' c' d' ps' ts', id'⟩ : CM))))
    (HS : Go.RowKit.Hid (∀ (W : World) (M : List HP), St w W M → Calls Try.prog 20 #[.string (Go.Proofs.YtkhcdichdnbcmaaR.Ext.mkB S)] W fun ee w' => ∃ A B n m p q, ee = .returned (.tuple #[.agg #[.int .u8 0, .int .i64 0, .int .i64 0, .int .i64 0, .int .i64 0, .int .i64 0, .slice A n p, .slice B m q, .int .i64 0], .int .i64 5]) ∧ St w w' (RI (.slice A n p) [] :: RT (.slice B m q) [] :: M))) (hSl : 1024 < S.length) :
    Calls Try.prog 7 #[.agg #[.int .u8 k, .int .i64 e, .int .i64 a, .int .i64 b, .int .i64 c, .int .i64 d, .slice A n p, .slice B m q, .int .i64 id], .agg #[.int .u8 k', .int .i64 e', .int .i64 a', .int .i64 b', .int .i64 c', .int .i64 d', .slice A' n' p', .slice B' m' q', .int .i64 id'], .string (Go.Proofs.YtkhcdichdnbcmaaR.Ext.mkB t)] w fun ee w' => ee = .returned (.bool true) ∧ Below w.heap.size w w' := by
  have HF1 := Lib.hid hF1
  have HF2 := Lib.hid hF2
  clear hF1 hF2
  have hlen : (Go.Proofs.YtkhcdichdnbcmaaR.Ext.mkB t).size = t.length := mkB_size t
  have hsl := slice_to t (min t.length 1100) (by omega)
  rw [hS] at hsl
  have s1 : St w ((w.alloc (Obj.cells #[.int .u8 k, .int .i64 e, .int .i64 a, .int .i64 b, .int .i64 c, .int .i64 d, .slice A n p, .slice B m q, .int .i64 id] tCm)).alloc (Obj.cells #[.int .u8 k', .int .i64 e', .int .i64 a', .int .i64 b', .int .i64 c', .int .i64 d', .slice A' n' p', .slice B' m' q', .int .i64 id'] tCm)) [blk (w.heap.size + 1) #[.int .u8 k', .int .i64 e', .int .i64 a', .int .i64 b', .int .i64 c', .int .i64 d', .slice A' n' p', .slice B' m' q', .int .i64 id'] tCm, blk w.heap.size #[.int .u8 k, .int .i64 e, .int .i64 a, .int .i64 b, .int .i64 c, .int .i64 d, .slice A n p, .slice B m q, .int .i64 id] tCm] := by
    simpa using ((St.start w).alloc #[.int .u8 k, .int .i64 e, .int .i64 a, .int .i64 b, .int .i64 c, .int .i64 d, .slice A n p, .slice B m q, .int .i64 id] tCm).alloc #[.int .u8 k', .int .i64 e', .int .i64 a', .int .i64 b', .int .i64 c', .int .i64 d', .slice A' n' p', .slice B' m' q', .int .i64 id'] tCm
  go_enter Try.func7, Try.ntmps7
  go_wp2_with fail
  generalize ((w.alloc (Obj.cells #[.int .u8 k, .int .i64 e, .int .i64 a, .int .i64 b, .int .i64 c, .int .i64 d, .slice A n p, .slice B m q, .int .i64 id] tCm)).alloc (Obj.cells #[.int .u8 k', .int .i64 e', .int .i64 a', .int .i64 b', .int .i64 c', .int .i64 d', .slice A' n' p', .slice B' m' q', .int .i64 id'] tCm)) = w1 at *
  generalize hB4 : w.heap.size + 1 = b4 at *
  generalize hB3 : w.heap.size = b3 at *
  have HB3 := Lib.hid hB3
  clear hB3 hB4
  refine start_ (n := 12) (S := fun w' => w'.cell? ⟨b3, 0, none⟩ = some (.int .u8 k) ∧ w'.cell? ⟨b3, 1, none⟩ = some (.int .i64 e) ∧ w'.cell? ⟨b3, 2, none⟩ = some (.int .i64 a) ∧ w'.cell? ⟨b3, 3, none⟩ = some (.int .i64 b) ∧ w'.cell? ⟨b3, 4, none⟩ = some (.int .i64 c) ∧ w'.cell? ⟨b3, 5, none⟩ = some (.int .i64 d) ∧ w'.cell? ⟨b3, 6, none⟩ = some (.slice A n p) ∧ w'.cell? ⟨b3, 7, none⟩ = some (.slice B m q) ∧ w'.cell? ⟨b3, 8, none⟩ = some (.int .i64 id) ∧ w'.cell? ⟨b4, 0, none⟩ = some (.int .u8 k') ∧ w'.cell? ⟨b4, 1, none⟩ = some (.int .i64 e') ∧ w'.cell? ⟨b4, 2, none⟩ = some (.int .i64 a') ∧ w'.cell? ⟨b4, 3, none⟩ = some (.int .i64 b') ∧ w'.cell? ⟨b4, 4, none⟩ = some (.int .i64 c') ∧ w'.cell? ⟨b4, 5, none⟩ = some (.int .i64 d') ∧ w'.cell? ⟨b4, 6, none⟩ = some (.slice A' n' p') ∧ w'.cell? ⟨b4, 7, none⟩ = some (.slice B' m' q') ∧ w'.cell? ⟨b4, 8, none⟩ = some (.int .i64 id')) (ds := [9, 10, 11]) #[false, false, false, false, false, false, false, false, false, false, false, false] (by kernel_rfl) rfl rfl ⟨(s1.pick 1).cells 0, (s1.pick 1).cells 1, (s1.pick 1).cells 2, (s1.pick 1).cells 3, (s1.pick 1).cells 4, (s1.pick 1).cells 5, (s1.pick 1).cells 6, (s1.pick 1).cells 7, (s1.pick 1).cells 8, (s1).cells 0, (s1).cells 1, (s1).cells 2, (s1).cells 3, (s1).cells 4, (s1).cells 5, (s1).cells 6, (s1).cells 7, (s1).cells 8⟩ (fun hHeld => ?_)
  have s1d := s1.drew
  clear s1
  generalize w1.drew = w1d at *
  refine pure_ (i := 4) (N := some 22) (v := ?_) (a' := ?_) #[false, false, false, false, true, false, false, false, false, false, false, false] rfl rfl (by kernel_rfl) (fun _ _ _ h => h) (Or.inl ⟨by rfl, ?_⟩) ?_ ?_
  rotate_left
  · intro w'
    go_simp
    with_reducible rfl
  rotate_left
  · simp only [Act.put, List.setIfInBounds_toArray, List.set_cons_zero, List.set_cons_succ, i64_w, i32_w]
    rfl
  refine pure_ (i := 5) (N := some 23) (v := ?_) (a' := ?_) #[false, false, false, false, true, true, false, false, false, false, false, false] rfl rfl (by kernel_rfl) (fun _ _ _ h => h) (Or.inl ⟨by rfl, ?_⟩) ?_ ?_
  rotate_left
  · intro w'
    go_simp
    with_reducible rfl
  rotate_left
  · simp only [Act.put, List.setIfInBounds_toArray, List.set_cons_zero, List.set_cons_succ, i64_w, i32_w]
    rfl
  refine pure_ (i := 6) (N := some 24) (v := (.int .i64 (t.length : Int))) (a' := ?_) #[false, false, false, false, true, true, true, false, false, false, false, false] rfl rfl (by kernel_rfl) (fun _ _ _ h => h) (Or.inl ⟨by rfl, ?_⟩) ?_ ?_
  · intro w'
    go_simp
  rotate_left
  · simp only [Act.put, List.setIfInBounds_toArray, List.set_cons_zero, List.set_cons_succ, i64_w, i32_w]
    rfl
  refine pure_ (i := 7) (N := some 25) (v := (.int .i64 ((min t.length 1100 : Nat) : Int))) (a' := ?_) #[false, false, false, false, true, true, true, true, false, false, false, false] rfl rfl (by kernel_rfl) (fun _ _ _ h => h) (Or.inl ⟨by rfl, ?_⟩) ?_ ?_
  · intro w'
    go_simp
    split <;> omega
  rotate_left
  · simp only [Act.put, List.setIfInBounds_toArray, List.set_cons_zero, List.set_cons_succ, i64_w, i32_w]
    rfl
  refine pure_ (i := 8) (N := some 26) (v := (.string (Go.Proofs.YtkhcdichdnbcmaaR.Ext.mkB S))) (a' := ?_) #[false, false, false, false, true, true, true, true, true, false, false, false] rfl rfl (by kernel_rfl) (fun _ _ _ h => h) (Or.inl ⟨by rfl, ?_⟩) ?_ ?_
  · intro w'
    go_simp
  rotate_left
  · simp only [Act.put, List.setIfInBounds_toArray, List.set_cons_zero, List.set_cons_succ, i64_w, i32_w]
    rfl
  refine take_ (i := 0) (N := some 18) (v := ?_) (a' := ?_) #[true, false, false, false, true, true, true, true, true, false, false, false] rfl rfl (by kernel_rfl) (fun _ _ _ h => h) (Or.inl ⟨by rfl, ?_⟩) hHeld ?_ ?_
  rotate_left
  · rintro w' ⟨s0, s1, s2, s3, s4, s5, s6, s7, s8, s9, s10, s11, s12, s13, s14, s15, s16, s17⟩
    go_simp
    with_reducible rfl
  rotate_left
  · simp only [Act.put, List.setIfInBounds_toArray, List.set_cons_zero, List.set_cons_succ, i64_w, i32_w]
    rfl
  refine take_ (i := 2) (N := some 20) (v := ?_) (a' := ?_) #[true, false, true, false, true, true, true, true, true, false, false, false] rfl rfl (by kernel_rfl) (fun _ _ _ h => h) (Or.inl ⟨by rfl, ?_⟩) hHeld ?_ ?_
  rotate_left
  · rintro w' ⟨s0, s1, s2, s3, s4, s5, s6, s7, s8, s9, s10, s11, s12, s13, s14, s15, s16, s17⟩
    go_simp
    with_reducible rfl
  rotate_left
  · simp only [Act.put, List.setIfInBounds_toArray, List.set_cons_zero, List.set_cons_succ, i64_w, i32_w]
    rfl
  refine one_ (i := 1) (N := some 19) #[true, true, true, false, true, true, true, true, true, false, false, false] rfl rfl (by kernel_rfl) (by decide) (fun K hK => ?_)
  refine goes_ Try.func12 (by kernel_rfl) rfl #[.agg #[.int .u8 k, .int .i64 e, .int .i64 a, .int .i64 b, .int .i64 c, .int .i64 d, .slice A n p, .slice B m q, .int .i64 id]] (by rfl) rfl rfl (by (try simp only [List.map_toArray, List.map_cons, List.map_nil]); first | done | rfl) ?_
  with_reducible refine (few9 k e a b c d A B n m p q id ps ts s1d (HF1.out _)).mono ?_
  rintro ee w2 ⟨A1, B1, p1, q1, n1, m1, rfl, s2⟩
  refine ⟨_, rfl, ?_⟩
  refine hK.out _ _ ⟨(s2.pick 3).cells 0, (s2.pick 3).cells 1, (s2.pick 3).cells 2, (s2.pick 3).cells 3, (s2.pick 3).cells 4, (s2.pick 3).cells 5, (s2.pick 3).cells 6, (s2.pick 3).cells 7, (s2.pick 3).cells 8, (s2.pick 2).cells 0, (s2.pick 2).cells 1, (s2.pick 2).cells 2, (s2.pick 2).cells 3, (s2.pick 2).cells 4, (s2.pick 2).cells 5, (s2.pick 2).cells 6, (s2.pick 2).cells 7, (s2.pick 2).cells 8⟩ (fun hHeld => ?_)
  clear hK K s1d
  refine norm_ (a' := ?_) ?_ ?_
  rotate_left
  · show Act.put _ (some 19) _ = _
    simp only [Act.put, List.setIfInBounds_toArray, List.set_cons_zero, List.set_cons_succ, i64_w, i32_w]
    rfl
  refine one_ (i := 3) (N := some 21) #[true, true, true, true, true, true, true, true, true, false, false, false] rfl rfl (by kernel_rfl) (by decide) (fun K hK => ?_)
  refine goes_ Try.func12 (by kernel_rfl) rfl #[.agg #[.int .u8 k', .int .i64 e', .int .i64 a', .int .i64 b', .int .i64 c', .int .i64 d', .slice A' n' p', .slice B' m' q', .int .i64 id']] (by rfl) rfl rfl (by (try simp only [List.map_toArray, List.map_cons, List.map_nil]); first | done | rfl) ?_
  with_reducible refine (few9 k' e' a' b' c' d' A' B' n' m' p' q' id' ps' ts' s2 (HF2.out _)).mono ?_
  rintro ee w3 ⟨A2, B2, p2, q2, n2, m2, rfl, s3⟩
  refine ⟨_, rfl, ?_⟩
  refine hK.out _ _ ⟨(s3.pick 5).cells 0, (s3.pick 5).cells 1, (s3.pick 5).cells 2, (s3.pick 5).cells 3, (s3.pick 5).cells 4, (s3.pick 5).cells 5, (s3.pick 5).cells 6, (s3.pick 5).cells 7, (s3.pick 5).cells 8, (s3.pick 4).cells 0, (s3.pick 4).cells 1, (s3.pick 4).cells 2, (s3.pick 4).cells 3, (s3.pick 4).cells 4, (s3.pick 4).cells 5, (s3.pick 4).cells 6, (s3.pick 4).cells 7, (s3.pick 4).cells 8⟩ (fun hHeld => ?_)
  clear hK K s2
  refine norm_ (a' := ?_) ?_ ?_
  rotate_left
  · show Act.put _ (some 21) _ = _
    simp only [Act.put, List.setIfInBounds_toArray, List.set_cons_zero, List.set_cons_succ, i64_w, i32_w]
    rfl
  clear hHeld HF1 HF2
  have s4 := s3.pick 5
  simp only [List.getElem_cons_succ, List.getElem_cons_zero, List.eraseIdx_cons_succ, List.eraseIdx_cons_zero] at s4
  clear s3
  refine last_ (i := 9) (N := none) #[true, true, true, true, true, true, true, true, true, true, false, false] rfl rfl (by kernel_rfl) (by decide) (fun K hK => ?_)
  refine skip_ (w1 := w3.setRow b3 #[.int .u8 k, .int .i64 e, .int .i64 a, .int .i64 b, .int .i64 c, .int .i64 d, .slice A1 n1 p1, .slice B1 m1 q1, .int .i64 id]) (by rfl) rfl (run_storeM w3 _ _ 29 rfl b3 0 #[.int .u8 k, .int .i64 e, .int .i64 a, .int .i64 b, .int .i64 c, .int .i64 d, .slice A1 n1 p1, .slice B1 m1 q1, .int .i64 id] size_cmd rfl rfl rfl s4.at0 (by simp) (by simp [Value.oneCell']) rfl) ?_
  refine hK.out _ _ ?_
  clear hK K
  have s5 := (s4.setRow #[.int .u8 k, .int .i64 e, .int .i64 a, .int .i64 b, .int .i64 c, .int .i64 d, .slice A1 n1 p1, .slice B1 m1 q1, .int .i64 id]).pick 5
  simp only [List.getElem_cons_succ, List.getElem_cons_zero, List.eraseIdx_cons_succ, List.eraseIdx_cons_zero] at s5
  clear s4
  generalize w3.setRow b3 #[.int .u8 k, .int .i64 e, .int .i64 a, .int .i64 b, .int .i64 c, .int .i64 d, .slice A1 n1 p1, .slice B1 m1 q1, .int .i64 id] = w4 at *
  refine last_ (i := 10) (N := none) #[true, true, true, true, true, true, true, true, true, true, true, false] rfl rfl (by kernel_rfl) (by decide) (fun K hK => ?_)
  refine skip_ (w1 := w4.setRow b4 #[.int .u8 k', .int .i64 e', .int .i64 a', .int .i64 b', .int .i64 c', .int .i64 d', .slice A2 n2 p2, .slice B2 m2 q2, .int .i64 id']) (by rfl) rfl (run_storeM w4 _ _ 29 rfl b4 0 #[.int .u8 k', .int .i64 e', .int .i64 a', .int .i64 b', .int .i64 c', .int .i64 d', .slice A2 n2 p2, .slice B2 m2 q2, .int .i64 id'] size_cmd rfl rfl rfl s5.at0 (by simp) (by simp [Value.oneCell']) rfl) ?_
  refine hK.out _ _ ?_
  clear hK K
  have s6 := s5.setRow #[.int .u8 k', .int .i64 e', .int .i64 a', .int .i64 b', .int .i64 c', .int .i64 d', .slice A2 n2 p2, .slice B2 m2 q2, .int .i64 id']
  clear s5
  generalize w4.setRow b4 #[.int .u8 k', .int .i64 e', .int .i64 a', .int .i64 b', .int .i64 c', .int .i64 d', .slice A2 n2 p2, .slice B2 m2 q2, .int .i64 id'] = w5 at *
  refine pure_ (i := 11) (N := some 2) (v := (.string (Go.Proofs.YtkhcdichdnbcmaaR.Ext.mkB S))) (a' := ?_) #[true, true, true, true, true, true, true, true, true, true, true, true] rfl rfl (by kernel_rfl) (fun _ _ _ h => h) (Or.inl ⟨by rfl, ?_⟩) ?_ ?_
  · intro w'
    go_simp
  rotate_left
  · simp only [Act.put, List.setIfInBounds_toArray, List.set_cons_zero, List.set_cons_succ, i64_w, i32_w]
    rfl
  refine done_ (by kernel_rfl) ?_
  clear hsl hlen
  have HX := Lib.hid (And.intro hX (And.intro hE1 (And.intro hY hE2)))
  clear hX hE1 hY hE2
  have s7 := s6.pick 5
  simp only [List.getElem_cons_succ, List.getElem_cons_zero, List.eraseIdx_cons_succ, List.eraseIdx_cons_zero] at s7
  clear s6
  have s8 := s7.pick 5
  simp only [List.getElem_cons_succ, List.getElem_cons_zero, List.eraseIdx_cons_succ, List.eraseIdx_cons_zero] at s8
  clear s7
  have hcb3 := (s8.pick 3).cells
  have hfb3 := (s8.pick 3).free
  have Q := Lib.hid s8
  clear s8
  go_wp2_with fail
  refine (enc9_s k e a b c d id ps ts Q.out X E1 HX.out.1 HX.out.2.1).mono ?_
  rintro ee w6 ⟨rfl, s9⟩
  clear Q hcb3 hfb3
  have s10 := s9.pick 5
  simp only [List.getElem_cons_succ, List.getElem_cons_zero, List.eraseIdx_cons_succ, List.eraseIdx_cons_zero] at s10
  clear s9
  have s11 := s10.pick 5
  simp only [List.getElem_cons_succ, List.getElem_cons_zero, List.eraseIdx_cons_succ, List.eraseIdx_cons_zero] at s11
  clear s10
  have hcb4 := (s11.pick 4).cells
  have hfb4 := (s11.pick 4).free
  have Q := Lib.hid s11
  clear s11
  go_wp2_with fail
  refine (enc9_s k' e' a' b' c' d' id' ps' ts' Q.out Y E2 HX.out.2.2.1 HX.out.2.2.2).mono ?_
  rintro ee w7 ⟨rfl, s12⟩
  clear Q hcb4 hfb4
  have s13 := s12.pick 3
  simp only [List.getElem_cons_succ, List.getElem_cons_zero, List.eraseIdx_cons_succ, List.eraseIdx_cons_zero] at s13
  clear s12
  have s14 := s13.pick 3
  simp only [List.getElem_cons_succ, List.getElem_cons_zero, List.eraseIdx_cons_succ, List.eraseIdx_cons_zero] at s14
  clear s13
  have hcb3 := (s14.pick 5).cells
  have hfb3 := (s14.pick 5).free
  have Q := Lib.hid s14
  clear s14
  go_wp2_with fail
  refine (chk9_s k e a b c d id ps ts Q.out E1 HX.out.2.1).mono ?_
  rintro ee w8 ⟨rfl, s15⟩
  clear Q hcb3 hfb3
  have s16 := s15.pick 3
  simp only [List.getElem_cons_succ, List.getElem_cons_zero, List.eraseIdx_cons_succ, List.eraseIdx_cons_zero] at s16
  clear s15
  have s17 := s16.pick 3
  simp only [List.getElem_cons_succ, List.getElem_cons_zero, List.eraseIdx_cons_succ, List.eraseIdx_cons_zero] at s17
  clear s16
  have hcb4 := (s17.pick 4).cells
  have hfb4 := (s17.pick 4).free
  have Q := Lib.hid s17
  clear s17
  go_wp2_with fail
  refine (chk9_s k' e' a' b' c' d' id' ps' ts' Q.out E2 HX.out.2.2.2).mono ?_
  rintro ee w9 ⟨rfl, s18⟩
  clear Q hcb4 hfb4
  have hs0 := mkB_size S
  have hs1 : decide (1024 < ((Go.Proofs.YtkhcdichdnbcmaaR.Ext.mkB S).size : Int)) = true := decide_eq_true (by rw [hs0]; omega)
  have hs2 : decide (1024 < (Go.Proofs.YtkhcdichdnbcmaaR.Ext.mkB S).size) = true := decide_eq_true (by rw [hs0]; omega)
  clear hs0 hSl
  by_cases h1 : E1 = 0
  · subst h1
    have HD := Lib.hid (hDX rfl)
    clear hDX
    have Q := Lib.hid s18
    clear s18
    go_wp2_with fail
    refine (HD.out _ _ Q.out).mono ?_
    rintro ee w10 ⟨A5, B5, n5, m5, p5, q5, rfl, s19⟩
    clear Q
    have s20 := s19.alloc #[.int .u8 k, .int .i64 e, .int .i64 a, .int .i64 b, .int .i64 c, .int .i64 d, .slice A5 n5 p5, .slice B5 m5 q5, .int .i64 id] tCm
    clear s19
    have s21 := s20.pick 6
    simp only [List.getElem_cons_succ, List.getElem_cons_zero, List.eraseIdx_cons_succ, List.eraseIdx_cons_zero] at s21
    clear s20
    have s22 := s21.pick 6
    simp only [List.getElem_cons_succ, List.getElem_cons_zero, List.eraseIdx_cons_succ, List.eraseIdx_cons_zero] at s22
    clear s21
    have s23 := s22.pick 4
    simp only [List.getElem_cons_succ, List.getElem_cons_zero, List.eraseIdx_cons_succ, List.eraseIdx_cons_zero] at s23
    clear s22
    have s24 := s23.pick 4
    simp only [List.getElem_cons_succ, List.getElem_cons_zero, List.eraseIdx_cons_succ, List.eraseIdx_cons_zero] at s24
    clear s23
    have hcb11 := (s24.pick 4).cells
    have hfb11 := (s24.pick 4).free
    have hcb3 := (s24.pick 8).cells
    have hfb3 := (s24.pick 8).free
    have Q := Lib.hid s24
    clear s24
    go_wp2_with fail
    refine (equ9_s k e a b c d id k e a b c d id ps ps ts ts (by omega) (by omega) true (by simp) Q.out).mono ?_
    rintro ee w11 ⟨rfl, s25⟩
    clear Q hcb11 hfb11 hcb3 hfb3
    have s26 := s25.pick 4
    simp only [List.getElem_cons_succ, List.getElem_cons_zero, List.eraseIdx_cons_succ, List.eraseIdx_cons_zero] at s26
    clear s25
    have s27 := s26.drop
    clear s26
    have s28 := s27.drop
    clear s27
    have s29 := s28.drop
    clear s28
    by_cases h2 : E2 = 0
    · subst h2
      have s30 := s29.pick 3
      simp only [List.getElem_cons_succ, List.getElem_cons_zero, List.eraseIdx_cons_succ, List.eraseIdx_cons_zero] at s30
      clear s29
      have s31 := s30.pick 3
      simp only [List.getElem_cons_succ, List.getElem_cons_zero, List.eraseIdx_cons_succ, List.eraseIdx_cons_zero] at s31
      clear s30
      have s32 := s31.pick 3
      simp only [List.getElem_cons_succ, List.getElem_cons_zero, List.eraseIdx_cons_succ, List.eraseIdx_cons_zero] at s32
      clear s31
      have s33 := s32.pick 3
      simp only [List.getElem_cons_succ, List.getElem_cons_zero, List.eraseIdx_cons_succ, List.eraseIdx_cons_zero] at s33
      clear s32
      go_upto_region 12 with fail
      obtain ⟨N, hN⟩ : ∃ N, N = min X.length Y.length := ⟨_, rfl⟩
      have hm1 : ∀ (inst : Decidable ((Go.Proofs.YtkhcdichdnbcmaaR.Ext.mkB Y).size < (Go.Proofs.YtkhcdichdnbcmaaR.Ext.mkB X).size)), @ite Int ((Go.Proofs.YtkhcdichdnbcmaaR.Ext.mkB Y).size < (Go.Proofs.YtkhcdichdnbcmaaR.Ext.mkB X).size) inst ((Go.Proofs.YtkhcdichdnbcmaaR.Ext.mkB Y).size : Int) ((Go.Proofs.YtkhcdichdnbcmaaR.Ext.mkB X).size : Int) = (N : Int) := by
        intro inst
        have hlx := mkB_size X
        have hly := mkB_size Y
        split <;> omega
      rw [hm1]
      clear hm1
      obtain ⟨bb, hbb⟩ : ∃ bb, decide ((⟨k, e, spOf a b c d ps ts, id⟩ : CM) = (⟨k', e', spOf a' b' c' d' ps' ts', id'⟩ : CM)) = bb := ⟨_, rfl⟩
      have hq := hEq trivial trivial N hN
      rw [hbb] at hq
      have hslX := slice_to X N (by omega)
      have hslY := slice_to Y N (by omega)
      have HBB := Lib.hid hbb
      clear hbb hEq
      have HN := Lib.hid hN
      clear hN
      generalize X.take N = XN at *
      generalize Y.take N = YN at *
      refine start_ (n := 11) (S := fun w' => w'.cell? ⟨b3, 0, none⟩ = some (.int .u8 k) ∧ w'.cell? ⟨b3, 1, none⟩ = some (.int .i64 e) ∧ w'.cell? ⟨b3, 2, none⟩ = some (.int .i64 a) ∧ w'.cell? ⟨b3, 3, none⟩ = some (.int .i64 b) ∧ w'.cell? ⟨b3, 4, none⟩ = some (.int .i64 c) ∧ w'.cell? ⟨b3, 5, none⟩ = some (.int .i64 d) ∧ w'.cell? ⟨b3, 6, none⟩ = some (.slice A1 n1 p1) ∧ w'.cell? ⟨b3, 7, none⟩ = some (.slice B1 m1 q1) ∧ w'.cell? ⟨b3, 8, none⟩ = some (.int .i64 id) ∧ w'.cell? ⟨b4, 0, none⟩ = some (.int .u8 k') ∧ w'.cell? ⟨b4, 1, none⟩ = some (.int .i64 e') ∧ w'.cell? ⟨b4, 2, none⟩ = some (.int .i64 a') ∧ w'.cell? ⟨b4, 3, none⟩ = some (.int .i64 b') ∧ w'.cell? ⟨b4, 4, none⟩ = some (.int .i64 c') ∧ w'.cell? ⟨b4, 5, none⟩ = some (.int .i64 d') ∧ w'.cell? ⟨b4, 6, none⟩ = some (.slice A2 n2 p2) ∧ w'.cell? ⟨b4, 7, none⟩ = some (.slice B2 m2 q2) ∧ w'.cell? ⟨b4, 8, none⟩ = some (.int .i64 id')) (ds := []) #[false, false, false, false, false, false, false, false, false, false, false] (by kernel_rfl) rfl rfl ⟨(s33.pick 5).cells 0, (s33.pick 5).cells 1, (s33.pick 5).cells 2, (s33.pick 5).cells 3, (s33.pick 5).cells 4, (s33.pick 5).cells 5, (s33.pick 5).cells 6, (s33.pick 5).cells 7, (s33.pick 5).cells 8, (s33.pick 4).cells 0, (s33.pick 4).cells 1, (s33.pick 4).cells 2, (s33.pick 4).cells 3, (s33.pick 4).cells 4, (s33.pick 4).cells 5, (s33.pick 4).cells 6, (s33.pick 4).cells 7, (s33.pick 4).cells 8⟩ (fun hHeld => ?_)
      have sd := s33.drew
      clear s33
      generalize w11.drew = wd at *
      refine pure_ (i := 0) (N := some 73) (v := ?_) (a' := ?_) #[true, false, false, false, false, false, false, false, false, false, false] rfl rfl (by kernel_rfl) (fun _ _ _ h => h) (Or.inl ⟨by rfl, ?_⟩) ?_ ?_
      rotate_left
      · intro w'
        go_simp
        with_reducible rfl
      rotate_left
      · simp only [Act.put, List.setIfInBounds_toArray, List.set_cons_zero, List.set_cons_succ, i64_w, i32_w]
        rfl
      refine pure_ (i := 1) (N := some 74) (v := ?_) (a' := ?_) #[true, true, false, false, false, false, false, false, false, false, false] rfl rfl (by kernel_rfl) (fun _ _ _ h => h) (Or.inl ⟨by rfl, ?_⟩) ?_ ?_
      rotate_left
      · intro w'
        go_simp
        with_reducible rfl
      rotate_left
      · simp only [Act.put, List.setIfInBounds_toArray, List.set_cons_zero, List.set_cons_succ, i64_w, i32_w]
        rfl
      refine pure_ (i := 2) (N := some 75) (v := (.string (Go.Proofs.YtkhcdichdnbcmaaR.Ext.mkB XN))) (a' := ?_) #[true, true, true, false, false, false, false, false, false, false, false] rfl rfl (by kernel_rfl) (fun _ _ _ h => h) (Or.inl ⟨by rfl, ?_⟩) ?_ ?_
      · intro w'
        go_simp
      rotate_left
      · simp only [Act.put, List.setIfInBounds_toArray, List.set_cons_zero, List.set_cons_succ, i64_w, i32_w]
        rfl
      refine pure_ (i := 3) (N := some 76) (v := ?_) (a' := ?_) #[true, true, true, true, false, false, false, false, false, false, false] rfl rfl (by kernel_rfl) (fun _ _ _ h => h) (Or.inl ⟨by rfl, ?_⟩) ?_ ?_
      rotate_left
      · intro w'
        go_simp
        with_reducible rfl
      rotate_left
      · simp only [Act.put, List.setIfInBounds_toArray, List.set_cons_zero, List.set_cons_succ, i64_w, i32_w]
        rfl
      refine pure_ (i := 4) (N := some 77) (v := ?_) (a' := ?_) #[true, true, true, true, true, false, false, false, false, false, false] rfl rfl (by kernel_rfl) (fun _ _ _ h => h) (Or.inl ⟨by rfl, ?_⟩) ?_ ?_
      rotate_left
      · intro w'
        go_simp
        with_reducible rfl
      rotate_left
      · simp only [Act.put, List.setIfInBounds_toArray, List.set_cons_zero, List.set_cons_succ, i64_w, i32_w]
        rfl
      refine pure_ (i := 5) (N := some 78) (v := (.string (Go.Proofs.YtkhcdichdnbcmaaR.Ext.mkB YN))) (a' := ?_) #[true, true, true, true, true, true, false, false, false, false, false] rfl rfl (by kernel_rfl) (fun _ _ _ h => h) (Or.inl ⟨by rfl, ?_⟩) ?_ ?_
      · intro w'
        go_simp
      rotate_left
      · simp only [Act.put, List.setIfInBounds_toArray, List.set_cons_zero, List.set_cons_succ, i64_w, i32_w]
        rfl
      refine pure_ (i := 6) (N := some 79) (v := (.bool bb)) (a' := ?_) #[true, true, true, true, true, true, true, false, false, false, false] rfl rfl (by kernel_rfl) (fun _ _ _ h => h) (Or.inl ⟨by rfl, ?_⟩) ?_ ?_
      · intro w'
        go_simp
      rotate_left
      · simp only [Act.put, List.setIfInBounds_toArray, List.set_cons_zero, List.set_cons_succ, i64_w, i32_w]
        rfl
      refine take_ (i := 7) (N := some 80) (v := ?_) (a' := ?_) #[true, true, true, true, true, true, true, true, false, false, false] rfl rfl (by kernel_rfl) (fun _ _ _ h => h) (Or.inl ⟨by rfl, ?_⟩) hHeld ?_ ?_
      rotate_left
      · rintro w' ⟨s0, s1, s2, s3, s4, s5, s6, s7, s8, s9, s10, s11, s12, s13, s14, s15, s16, s17⟩
        go_simp
        with_reducible rfl
      rotate_left
      · simp only [Act.put, List.setIfInBounds_toArray, List.set_cons_zero, List.set_cons_succ, i64_w, i32_w]
        rfl
      refine take_ (i := 8) (N := some 81) (v := ?_) (a' := ?_) #[true, true, true, true, true, true, true, true, true, false, false] rfl rfl (by kernel_rfl) (fun _ _ _ h => h) (Or.inl ⟨by rfl, ?_⟩) hHeld ?_ ?_
      rotate_left
      · rintro w' ⟨s0, s1, s2, s3, s4, s5, s6, s7, s8, s9, s10, s11, s12, s13, s14, s15, s16, s17⟩
        go_simp
        with_reducible rfl
      rotate_left
      · simp only [Act.put, List.setIfInBounds_toArray, List.set_cons_zero, List.set_cons_succ, i64_w, i32_w]
        rfl
      refine one_ (i := 9) (N := some 82) #[true, true, true, true, true, true, true, true, true, true, false] rfl rfl (by kernel_rfl) (by decide) (fun K hK => ?_)
      refine goes_ Try.func19 (by kernel_rfl) rfl #[.agg #[.int .u8 k, .int .i64 e, .int .i64 a, .int .i64 b, .int .i64 c, .int .i64 d, .slice A1 n1 p1, .slice B1 m1 q1, .int .i64 id], .agg #[.int .u8 k', .int .i64 e', .int .i64 a', .int .i64 b', .int .i64 c', .int .i64 d', .slice A2 n2 p2, .slice B2 m2 q2, .int .i64 id']] (by rfl) rfl rfl (by (try simp only [List.map_toArray, List.map_cons, List.map_nil]); first | done | rfl) ?_
      with_reducible refine (equ9_s k e a b c d id k' e' a' b' c' d' id' ps ps' ts ts' (by omega) (by omega) bb HBB.out sd).mono ?_
      rintro ee we ⟨rfl, se⟩
      refine ⟨_, rfl, ?_⟩
      refine hK.out _ _ ⟨(se.pick 5).cells 0, (se.pick 5).cells 1, (se.pick 5).cells 2, (se.pick 5).cells 3, (se.pick 5).cells 4, (se.pick 5).cells 5, (se.pick 5).cells 6, (se.pick 5).cells 7, (se.pick 5).cells 8, (se.pick 4).cells 0, (se.pick 4).cells 1, (se.pick 4).cells 2, (se.pick 4).cells 3, (se.pick 4).cells 4, (se.pick 4).cells 5, (se.pick 4).cells 6, (se.pick 4).cells 7, (se.pick 4).cells 8⟩ (fun hHeld => ?_)
      clear hK K sd
      refine norm_ (a' := ?_) ?_ ?_
      rotate_left
      · show Act.put _ (some 82) _ = _
        simp only [Act.put, List.setIfInBounds_toArray, List.set_cons_zero, List.set_cons_succ, i64_w, i32_w]
        rfl
      refine pure_ (i := 10) (N := some 83) (v := (.bool false)) (a' := ?_) #[true, true, true, true, true, true, true, true, true, true, true] rfl rfl (by kernel_rfl) (fun _ _ _ h => h) (Or.inl ⟨by rfl, ?_⟩) ?_ ?_
      · intro w'
        go_simp
      rotate_left
      · simp only [Act.put, List.setIfInBounds_toArray, List.set_cons_zero, List.set_cons_succ, i64_w, i32_w]
        rfl
      refine done_ (by kernel_rfl) ?_
      clear hHeld hq hslX hslY HBB HN
      have Q := Lib.hid se
      clear se
      go_wp2_with fail
      refine (HS.out _ _ Q.out).mono ?_
      rintro ee w12 ⟨A7, B7, n7, m7, p7, q7, rfl, s34⟩
      clear Q
      have s35 := s34.alloc #[.int .u8 0, .int .i64 0, .int .i64 0, .int .i64 0, .int .i64 0, .int .i64 0, .slice A7 n7 p7, .slice B7 m7 q7, .int .i64 0] tCm
      clear s34
      have Q := Lib.hid s35
      clear s35
      have hcb14 := Q.out.cells
      go_wp2_with fail
      have z1 := Q.out.pick 1
      simp only [List.getElem_cons_succ, List.getElem_cons_zero, List.eraseIdx_cons_succ, List.eraseIdx_cons_zero] at z1
      have z2 := z1.pick 2
      simp only [List.getElem_cons_succ, List.getElem_cons_zero, List.eraseIdx_cons_succ, List.eraseIdx_cons_zero] at z2
      have z3 := z2.pick 1
      simp only [List.getElem_cons_succ, List.getElem_cons_zero, List.eraseIdx_cons_succ, List.eraseIdx_cons_zero] at z3
      clear z1 z2
      refine (equ9_n 0 0 0 0 0 0 0 0 0 0 [] [] (by simp) (by simp) true (by decide +kernel) z3).mono ?_
      rintro ee wa ⟨rfl, y1⟩
      clear z3 Q hcb14
      have Q := Lib.hid y1
      clear y1
      go_wp2_with fail
      refine (awake18 Q.out).mono ?_
      rintro ee wc ⟨rfl, y3⟩
      clear Q
      have HB := Lib.hid y3.bel
      clear y3
      go_wp2
      go_returns
      exact ⟨rfl, HB.out⟩
    · have h2b : (E2 == 0) = false := beq_eq_false_iff_ne.mpr h2
      clear h2 hEq
      have Q := Lib.hid s29
      clear s29
      go_wp2_with fail
      refine (HS.out _ _ Q.out).mono ?_
      rintro ee w12 ⟨A7, B7, n7, m7, p7, q7, rfl, s30⟩
      clear Q
      have s31 := s30.alloc #[.int .u8 0, .int .i64 0, .int .i64 0, .int .i64 0, .int .i64 0, .int .i64 0, .slice A7 n7 p7, .slice B7 m7 q7, .int .i64 0] tCm
      clear s30
      have Q := Lib.hid s31
      clear s31
      have hcb14 := Q.out.cells
      go_wp2_with fail
      have z1 := Q.out.pick 1
      simp only [List.getElem_cons_succ, List.getElem_cons_zero, List.eraseIdx_cons_succ, List.eraseIdx_cons_zero] at z1
      have z2 := z1.pick 2
      simp only [List.getElem_cons_succ, List.getElem_cons_zero, List.eraseIdx_cons_succ, List.eraseIdx_cons_zero] at z2
      have z3 := z2.pick 1
      simp only [List.getElem_cons_succ, List.getElem_cons_zero, List.eraseIdx_cons_succ, List.eraseIdx_cons_zero] at z3
      clear z1 z2
      refine (equ9_n 0 0 0 0 0 0 0 0 0 0 [] [] (by simp) (by simp) true (by decide +kernel) z3).mono ?_
      rintro ee wa ⟨rfl, y1⟩
      clear z3 Q hcb14
      have Q := Lib.hid y1
      clear y1
      go_wp2_with fail
      refine (awake18 Q.out).mono ?_
      rintro ee wc ⟨rfl, y3⟩
      clear Q
      have HB := Lib.hid y3.bel
      clear y3
      go_wp2
      go_returns
      exact ⟨rfl, HB.out⟩
  · have h1b : (E1 == 0) = false := beq_eq_false_iff_ne.mpr h1
    clear h1 hEq hDX
    have Q := Lib.hid s18
    clear s18
    go_wp2_with fail
    refine (HS.out _ _ Q.out).mono ?_
    rintro ee w10 ⟨A7, B7, n7, m7, p7, q7, rfl, s19⟩
    clear Q
    have s20 := s19.alloc #[.int .u8 0, .int .i64 0, .int .i64 0, .int .i64 0, .int .i64 0, .int .i64 0, .slice A7 n7 p7, .slice B7 m7 q7, .int .i64 0] tCm
    clear s19
    have Q := Lib.hid s20
    clear s20
    have hcb14 := Q.out.cells
    go_wp2_with fail
    have z1 := Q.out.pick 1
    simp only [List.getElem_cons_succ, List.getElem_cons_zero, List.eraseIdx_cons_succ, List.eraseIdx_cons_zero] at z1
    have z2 := z1.pick 2
    simp only [List.getElem_cons_succ, List.getElem_cons_zero, List.eraseIdx_cons_succ, List.eraseIdx_cons_zero] at z2
    have z3 := z2.pick 1
    simp only [List.getElem_cons_succ, List.getElem_cons_zero, List.eraseIdx_cons_succ, List.eraseIdx_cons_zero] at z3
    clear z1 z2
    refine (equ9_n 0 0 0 0 0 0 0 0 0 0 [] [] (by simp) (by simp) true (by decide +kernel) z3).mono ?_
    rintro ee wa ⟨rfl, y1⟩
    clear z3 Q hcb14
    have Q := Lib.hid y1
    clear y1
    go_wp2_with fail
    refine (awake18 Q.out).mono ?_
    rintro ee wc ⟨rfl, y3⟩
    clear Q
    have HB := Lib.hid y3.bel
    clear y3
    go_wp2
    go_returns
    exact ⟨rfl, HB.out⟩
set_option maxRecDepth 100000 in
set_option maxHeartbeats 16000000 in
theorem back_4 (k e a b c d id k' e' a' b' c' d' id' : Int) (A B A' B' : Option Addr) (n m p q n' m' p' q' : Nat) (ps ps' : List Int) (ts ts' : List TX) (t S : List UInt8) (X Y : List UInt8) (E1 E2 : Int) (w : World)
    (hF1 : ∀ L, FewOf w L a b c d A B n m p q ps ts) (hF2 : ∀ L, FewOf w L a' b' c' d' A' B' n' m' p' q' ps' ts') (hS : t.take (min t.length 1100) = S) (hps : ps.length ≤ 20) (hts : ts.length ≤ 10) (hps' : ps'.length ≤ 20) (hts' : ts'.length ≤ 10)
    (hX : Sp.encCR (⟨k, e, spOf a b c d ps ts, id⟩ : CM) = X) (hE1 : Sp.cmdE (⟨k, e, spOf a b c d ps ts, id⟩ : CM) = E1) (hY : Sp.encCR (⟨k', e', spOf a' b' c' d' ps' ts', id'⟩ : CM) = Y) (hE2 : Sp.cmdE (⟨k', e', spOf a' b' c' d' ps' ts', id'⟩ : CM) = E2)
    (hDX : E1 = 0 → ∀ (W : World) (M : List HP), St w W M → Calls Try.prog 20 #[.string (Go.Proofs.YtkhcdichdnbcmaaR.Ext.mkB X)] W fun ee w' => ∃ A B n m p q, ee = .returned (.tuple #[.agg #[.int .u8 k, .int .i64 e, .int .i64 a, .int .i64 b, .int .i64 c, .int .i64 d, .slice A n p, .slice B m q, .int .i64 id], .int .i64 0]) ∧ St w w' (RI (.slice A n p) ps :: RT (.slice B m q) ts :: M))
    (hEq : E1 = 0 → E2 = 0 → ∀ N : Nat, N = min X.length Y.length → (((Go.Proofs.YtkhcdichdnbcmaaR.Ext.mkB (X.take N)).toList == (Go.Proofs.YtkhcdichdnbcmaaR.Ext.mkB (Y.take N)).toList) = decide ((⟨k, e, spOf a b c d ps ts, id⟩ : CM) = (⟨k', e', spOf a' b' c' d' ps' ts', id'⟩ : CM))))
    (HS : Go.RowKit.Hid (∀ (W : World) (M : List HP), St w W M → Calls Try.prog 20 #[.string (Go.Proofs.YtkhcdichdnbcmaaR.Ext.mkB S)] W fun ee w' => ∃ A B n m p q, ee = .returned (.tuple #[.agg #[.int .u8 0, .int .i64 0, .int .i64 0, .int .i64 0, .int .i64 0, .int .i64 0, .slice A n p, .slice B m q, .int .i64 0], .int .i64 4]) ∧ St w w' (RI (.slice A n p) [] :: RT (.slice B m q) [] :: M))) (hSl : S.length ≤ 1024) :
    Calls Try.prog 7 #[.agg #[.int .u8 k, .int .i64 e, .int .i64 a, .int .i64 b, .int .i64 c, .int .i64 d, .slice A n p, .slice B m q, .int .i64 id], .agg #[.int .u8 k', .int .i64 e', .int .i64 a', .int .i64 b', .int .i64 c', .int .i64 d', .slice A' n' p', .slice B' m' q', .int .i64 id'], .string (Go.Proofs.YtkhcdichdnbcmaaR.Ext.mkB t)] w fun ee w' => ee = .returned (.bool true) ∧ Below w.heap.size w w' := by
  have HF1 := Lib.hid hF1
  have HF2 := Lib.hid hF2
  clear hF1 hF2
  have hlen : (Go.Proofs.YtkhcdichdnbcmaaR.Ext.mkB t).size = t.length := mkB_size t
  have hsl := slice_to t (min t.length 1100) (by omega)
  rw [hS] at hsl
  have s1 : St w ((w.alloc (Obj.cells #[.int .u8 k, .int .i64 e, .int .i64 a, .int .i64 b, .int .i64 c, .int .i64 d, .slice A n p, .slice B m q, .int .i64 id] tCm)).alloc (Obj.cells #[.int .u8 k', .int .i64 e', .int .i64 a', .int .i64 b', .int .i64 c', .int .i64 d', .slice A' n' p', .slice B' m' q', .int .i64 id'] tCm)) [blk (w.heap.size + 1) #[.int .u8 k', .int .i64 e', .int .i64 a', .int .i64 b', .int .i64 c', .int .i64 d', .slice A' n' p', .slice B' m' q', .int .i64 id'] tCm, blk w.heap.size #[.int .u8 k, .int .i64 e, .int .i64 a, .int .i64 b, .int .i64 c, .int .i64 d, .slice A n p, .slice B m q, .int .i64 id] tCm] := by
    simpa using ((St.start w).alloc #[.int .u8 k, .int .i64 e, .int .i64 a, .int .i64 b, .int .i64 c, .int .i64 d, .slice A n p, .slice B m q, .int .i64 id] tCm).alloc #[.int .u8 k', .int .i64 e', .int .i64 a', .int .i64 b', .int .i64 c', .int .i64 d', .slice A' n' p', .slice B' m' q', .int .i64 id'] tCm
  go_enter Try.func7, Try.ntmps7
  go_wp2_with fail
  generalize ((w.alloc (Obj.cells #[.int .u8 k, .int .i64 e, .int .i64 a, .int .i64 b, .int .i64 c, .int .i64 d, .slice A n p, .slice B m q, .int .i64 id] tCm)).alloc (Obj.cells #[.int .u8 k', .int .i64 e', .int .i64 a', .int .i64 b', .int .i64 c', .int .i64 d', .slice A' n' p', .slice B' m' q', .int .i64 id'] tCm)) = w1 at *
  generalize hB4 : w.heap.size + 1 = b4 at *
  generalize hB3 : w.heap.size = b3 at *
  have HB3 := Lib.hid hB3
  clear hB3 hB4
  refine start_ (n := 12) (S := fun w' => w'.cell? ⟨b3, 0, none⟩ = some (.int .u8 k) ∧ w'.cell? ⟨b3, 1, none⟩ = some (.int .i64 e) ∧ w'.cell? ⟨b3, 2, none⟩ = some (.int .i64 a) ∧ w'.cell? ⟨b3, 3, none⟩ = some (.int .i64 b) ∧ w'.cell? ⟨b3, 4, none⟩ = some (.int .i64 c) ∧ w'.cell? ⟨b3, 5, none⟩ = some (.int .i64 d) ∧ w'.cell? ⟨b3, 6, none⟩ = some (.slice A n p) ∧ w'.cell? ⟨b3, 7, none⟩ = some (.slice B m q) ∧ w'.cell? ⟨b3, 8, none⟩ = some (.int .i64 id) ∧ w'.cell? ⟨b4, 0, none⟩ = some (.int .u8 k') ∧ w'.cell? ⟨b4, 1, none⟩ = some (.int .i64 e') ∧ w'.cell? ⟨b4, 2, none⟩ = some (.int .i64 a') ∧ w'.cell? ⟨b4, 3, none⟩ = some (.int .i64 b') ∧ w'.cell? ⟨b4, 4, none⟩ = some (.int .i64 c') ∧ w'.cell? ⟨b4, 5, none⟩ = some (.int .i64 d') ∧ w'.cell? ⟨b4, 6, none⟩ = some (.slice A' n' p') ∧ w'.cell? ⟨b4, 7, none⟩ = some (.slice B' m' q') ∧ w'.cell? ⟨b4, 8, none⟩ = some (.int .i64 id')) (ds := [9, 10, 11]) #[false, false, false, false, false, false, false, false, false, false, false, false] (by kernel_rfl) rfl rfl ⟨(s1.pick 1).cells 0, (s1.pick 1).cells 1, (s1.pick 1).cells 2, (s1.pick 1).cells 3, (s1.pick 1).cells 4, (s1.pick 1).cells 5, (s1.pick 1).cells 6, (s1.pick 1).cells 7, (s1.pick 1).cells 8, (s1).cells 0, (s1).cells 1, (s1).cells 2, (s1).cells 3, (s1).cells 4, (s1).cells 5, (s1).cells 6, (s1).cells 7, (s1).cells 8⟩ (fun hHeld => ?_)
  have s1d := s1.drew
  clear s1
  generalize w1.drew = w1d at *
  refine pure_ (i := 4) (N := some 22) (v := ?_) (a' := ?_) #[false, false, false, false, true, false, false, false, false, false, false, false] rfl rfl (by kernel_rfl) (fun _ _ _ h => h) (Or.inl ⟨by rfl, ?_⟩) ?_ ?_
  rotate_left
  · intro w'
    go_simp
    with_reducible rfl
  rotate_left
  · simp only [Act.put, List.setIfInBounds_toArray, List.set_cons_zero, List.set_cons_succ, i64_w, i32_w]
    rfl
  refine pure_ (i := 5) (N := some 23) (v := ?_) (a' := ?_) #[false, false, false, false, true, true, false, false, false, false, false, false] rfl rfl (by kernel_rfl) (fun _ _ _ h => h) (Or.inl ⟨by rfl, ?_⟩) ?_ ?_
  rotate_left
  · intro w'
    go_simp
    with_reducible rfl
  rotate_left
  · simp only [Act.put, List.setIfInBounds_toArray, List.set_cons_zero, List.set_cons_succ, i64_w, i32_w]
    rfl
  refine pure_ (i := 6) (N := some 24) (v := (.int .i64 (t.length : Int))) (a' := ?_) #[false, false, false, false, true, true, true, false, false, false, false, false] rfl rfl (by kernel_rfl) (fun _ _ _ h => h) (Or.inl ⟨by rfl, ?_⟩) ?_ ?_
  · intro w'
    go_simp
  rotate_left
  · simp only [Act.put, List.setIfInBounds_toArray, List.set_cons_zero, List.set_cons_succ, i64_w, i32_w]
    rfl
  refine pure_ (i := 7) (N := some 25) (v := (.int .i64 ((min t.length 1100 : Nat) : Int))) (a' := ?_) #[false, false, false, false, true, true, true, true, false, false, false, false] rfl rfl (by kernel_rfl) (fun _ _ _ h => h) (Or.inl ⟨by rfl, ?_⟩) ?_ ?_
  · intro w'
    go_simp
    split <;> omega
  rotate_left
  · simp only [Act.put, List.setIfInBounds_toArray, List.set_cons_zero, List.set_cons_succ, i64_w, i32_w]
    rfl
  refine pure_ (i := 8) (N := some 26) (v := (.string (Go.Proofs.YtkhcdichdnbcmaaR.Ext.mkB S))) (a' := ?_) #[false, false, false, false, true, true, true, true, true, false, false, false] rfl rfl (by kernel_rfl) (fun _ _ _ h => h) (Or.inl ⟨by rfl, ?_⟩) ?_ ?_
  · intro w'
    go_simp
  rotate_left
  · simp only [Act.put, List.setIfInBounds_toArray, List.set_cons_zero, List.set_cons_succ, i64_w, i32_w]
    rfl
  refine take_ (i := 0) (N := some 18) (v := ?_) (a' := ?_) #[true, false, false, false, true, true, true, true, true, false, false, false] rfl rfl (by kernel_rfl) (fun _ _ _ h => h) (Or.inl ⟨by rfl, ?_⟩) hHeld ?_ ?_
  rotate_left
  · rintro w' ⟨s0, s1, s2, s3, s4, s5, s6, s7, s8, s9, s10, s11, s12, s13, s14, s15, s16, s17⟩
    go_simp
    with_reducible rfl
  rotate_left
  · simp only [Act.put, List.setIfInBounds_toArray, List.set_cons_zero, List.set_cons_succ, i64_w, i32_w]
    rfl
  refine take_ (i := 2) (N := some 20) (v := ?_) (a' := ?_) #[true, false, true, false, true, true, true, true, true, false, false, false] rfl rfl (by kernel_rfl) (fun _ _ _ h => h) (Or.inl ⟨by rfl, ?_⟩) hHeld ?_ ?_
  rotate_left
  · rintro w' ⟨s0, s1, s2, s3, s4, s5, s6, s7, s8, s9, s10, s11, s12, s13, s14, s15, s16, s17⟩
    go_simp
    with_reducible rfl
  rotate_left
  · simp only [Act.put, List.setIfInBounds_toArray, List.set_cons_zero, List.set_cons_succ, i64_w, i32_w]
    rfl
  refine one_ (i := 1) (N := some 19) #[true, true, true, false, true, true, true, true, true, false, false, false] rfl rfl (by kernel_rfl) (by decide) (fun K hK => ?_)
  refine goes_ Try.func12 (by kernel_rfl) rfl #[.agg #[.int .u8 k, .int .i64 e, .int .i64 a, .int .i64 b, .int .i64 c, .int .i64 d, .slice A n p, .slice B m q, .int .i64 id]] (by rfl) rfl rfl (by (try simp only [List.map_toArray, List.map_cons, List.map_nil]); first | done | rfl) ?_
  with_reducible refine (few9 k e a b c d A B n m p q id ps ts s1d (HF1.out _)).mono ?_
  rintro ee w2 ⟨A1, B1, p1, q1, n1, m1, rfl, s2⟩
  refine ⟨_, rfl, ?_⟩
  refine hK.out _ _ ⟨(s2.pick 3).cells 0, (s2.pick 3).cells 1, (s2.pick 3).cells 2, (s2.pick 3).cells 3, (s2.pick 3).cells 4, (s2.pick 3).cells 5, (s2.pick 3).cells 6, (s2.pick 3).cells 7, (s2.pick 3).cells 8, (s2.pick 2).cells 0, (s2.pick 2).cells 1, (s2.pick 2).cells 2, (s2.pick 2).cells 3, (s2.pick 2).cells 4, (s2.pick 2).cells 5, (s2.pick 2).cells 6, (s2.pick 2).cells 7, (s2.pick 2).cells 8⟩ (fun hHeld => ?_)
  clear hK K s1d
  refine norm_ (a' := ?_) ?_ ?_
  rotate_left
  · show Act.put _ (some 19) _ = _
    simp only [Act.put, List.setIfInBounds_toArray, List.set_cons_zero, List.set_cons_succ, i64_w, i32_w]
    rfl
  refine one_ (i := 3) (N := some 21) #[true, true, true, true, true, true, true, true, true, false, false, false] rfl rfl (by kernel_rfl) (by decide) (fun K hK => ?_)
  refine goes_ Try.func12 (by kernel_rfl) rfl #[.agg #[.int .u8 k', .int .i64 e', .int .i64 a', .int .i64 b', .int .i64 c', .int .i64 d', .slice A' n' p', .slice B' m' q', .int .i64 id']] (by rfl) rfl rfl (by (try simp only [List.map_toArray, List.map_cons, List.map_nil]); first | done | rfl) ?_
  with_reducible refine (few9 k' e' a' b' c' d' A' B' n' m' p' q' id' ps' ts' s2 (HF2.out _)).mono ?_
  rintro ee w3 ⟨A2, B2, p2, q2, n2, m2, rfl, s3⟩
  refine ⟨_, rfl, ?_⟩
  refine hK.out _ _ ⟨(s3.pick 5).cells 0, (s3.pick 5).cells 1, (s3.pick 5).cells 2, (s3.pick 5).cells 3, (s3.pick 5).cells 4, (s3.pick 5).cells 5, (s3.pick 5).cells 6, (s3.pick 5).cells 7, (s3.pick 5).cells 8, (s3.pick 4).cells 0, (s3.pick 4).cells 1, (s3.pick 4).cells 2, (s3.pick 4).cells 3, (s3.pick 4).cells 4, (s3.pick 4).cells 5, (s3.pick 4).cells 6, (s3.pick 4).cells 7, (s3.pick 4).cells 8⟩ (fun hHeld => ?_)
  clear hK K s2
  refine norm_ (a' := ?_) ?_ ?_
  rotate_left
  · show Act.put _ (some 21) _ = _
    simp only [Act.put, List.setIfInBounds_toArray, List.set_cons_zero, List.set_cons_succ, i64_w, i32_w]
    rfl
  clear hHeld HF1 HF2
  have s4 := s3.pick 5
  simp only [List.getElem_cons_succ, List.getElem_cons_zero, List.eraseIdx_cons_succ, List.eraseIdx_cons_zero] at s4
  clear s3
  refine last_ (i := 9) (N := none) #[true, true, true, true, true, true, true, true, true, true, false, false] rfl rfl (by kernel_rfl) (by decide) (fun K hK => ?_)
  refine skip_ (w1 := w3.setRow b3 #[.int .u8 k, .int .i64 e, .int .i64 a, .int .i64 b, .int .i64 c, .int .i64 d, .slice A1 n1 p1, .slice B1 m1 q1, .int .i64 id]) (by rfl) rfl (run_storeM w3 _ _ 29 rfl b3 0 #[.int .u8 k, .int .i64 e, .int .i64 a, .int .i64 b, .int .i64 c, .int .i64 d, .slice A1 n1 p1, .slice B1 m1 q1, .int .i64 id] size_cmd rfl rfl rfl s4.at0 (by simp) (by simp [Value.oneCell']) rfl) ?_
  refine hK.out _ _ ?_
  clear hK K
  have s5 := (s4.setRow #[.int .u8 k, .int .i64 e, .int .i64 a, .int .i64 b, .int .i64 c, .int .i64 d, .slice A1 n1 p1, .slice B1 m1 q1, .int .i64 id]).pick 5
  simp only [List.getElem_cons_succ, List.getElem_cons_zero, List.eraseIdx_cons_succ, List.eraseIdx_cons_zero] at s5
  clear s4
  generalize w3.setRow b3 #[.int .u8 k, .int .i64 e, .int .i64 a, .int .i64 b, .int .i64 c, .int .i64 d, .slice A1 n1 p1, .slice B1 m1 q1, .int .i64 id] = w4 at *
  refine last_ (i := 10) (N := none) #[true, true, true, true, true, true, true, true, true, true, true, false] rfl rfl (by kernel_rfl) (by decide) (fun K hK => ?_)
  refine skip_ (w1 := w4.setRow b4 #[.int .u8 k', .int .i64 e', .int .i64 a', .int .i64 b', .int .i64 c', .int .i64 d', .slice A2 n2 p2, .slice B2 m2 q2, .int .i64 id']) (by rfl) rfl (run_storeM w4 _ _ 29 rfl b4 0 #[.int .u8 k', .int .i64 e', .int .i64 a', .int .i64 b', .int .i64 c', .int .i64 d', .slice A2 n2 p2, .slice B2 m2 q2, .int .i64 id'] size_cmd rfl rfl rfl s5.at0 (by simp) (by simp [Value.oneCell']) rfl) ?_
  refine hK.out _ _ ?_
  clear hK K
  have s6 := s5.setRow #[.int .u8 k', .int .i64 e', .int .i64 a', .int .i64 b', .int .i64 c', .int .i64 d', .slice A2 n2 p2, .slice B2 m2 q2, .int .i64 id']
  clear s5
  generalize w4.setRow b4 #[.int .u8 k', .int .i64 e', .int .i64 a', .int .i64 b', .int .i64 c', .int .i64 d', .slice A2 n2 p2, .slice B2 m2 q2, .int .i64 id'] = w5 at *
  refine pure_ (i := 11) (N := some 2) (v := (.string (Go.Proofs.YtkhcdichdnbcmaaR.Ext.mkB S))) (a' := ?_) #[true, true, true, true, true, true, true, true, true, true, true, true] rfl rfl (by kernel_rfl) (fun _ _ _ h => h) (Or.inl ⟨by rfl, ?_⟩) ?_ ?_
  · intro w'
    go_simp
  rotate_left
  · simp only [Act.put, List.setIfInBounds_toArray, List.set_cons_zero, List.set_cons_succ, i64_w, i32_w]
    rfl
  refine done_ (by kernel_rfl) ?_
  clear hsl hlen
  have HX := Lib.hid (And.intro hX (And.intro hE1 (And.intro hY hE2)))
  clear hX hE1 hY hE2
  have s7 := s6.pick 5
  simp only [List.getElem_cons_succ, List.getElem_cons_zero, List.eraseIdx_cons_succ, List.eraseIdx_cons_zero] at s7
  clear s6
  have s8 := s7.pick 5
  simp only [List.getElem_cons_succ, List.getElem_cons_zero, List.eraseIdx_cons_succ, List.eraseIdx_cons_zero] at s8
  clear s7
  have hcb3 := (s8.pick 3).cells
  have hfb3 := (s8.pick 3).free
  have Q := Lib.hid s8
  clear s8
  go_wp2_with fail
  refine (enc9_s k e a b c d id ps ts Q.out X E1 HX.out.1 HX.out.2.1).mono ?_
  rintro ee w6 ⟨rfl, s9⟩
  clear Q hcb3 hfb3
  have s10 := s9.pick 5
  simp only [List.getElem_cons_succ, List.getElem_cons_zero, List.eraseIdx_cons_succ, List.eraseIdx_cons_zero] at s10
  clear s9
  have s11 := s10.pick 5
  simp only [List.getElem_cons_succ, List.getElem_cons_zero, List.eraseIdx_cons_succ, List.eraseIdx_cons_zero] at s11
  clear s10
  have hcb4 := (s11.pick 4).cells
  have hfb4 := (s11.pick 4).free
  have Q := Lib.hid s11
  clear s11
  go_wp2_with fail
  refine (enc9_s k' e' a' b' c' d' id' ps' ts' Q.out Y E2 HX.out.2.2.1 HX.out.2.2.2).mono ?_
  rintro ee w7 ⟨rfl, s12⟩
  clear Q hcb4 hfb4
  have s13 := s12.pick 3
  simp only [List.getElem_cons_succ, List.getElem_cons_zero, List.eraseIdx_cons_succ, List.eraseIdx_cons_zero] at s13
  clear s12
  have s14 := s13.pick 3
  simp only [List.getElem_cons_succ, List.getElem_cons_zero, List.eraseIdx_cons_succ, List.eraseIdx_cons_zero] at s14
  clear s13
  have hcb3 := (s14.pick 5).cells
  have hfb3 := (s14.pick 5).free
  have Q := Lib.hid s14
  clear s14
  go_wp2_with fail
  refine (chk9_s k e a b c d id ps ts Q.out E1 HX.out.2.1).mono ?_
  rintro ee w8 ⟨rfl, s15⟩
  clear Q hcb3 hfb3
  have s16 := s15.pick 3
  simp only [List.getElem_cons_succ, List.getElem_cons_zero, List.eraseIdx_cons_succ, List.eraseIdx_cons_zero] at s16
  clear s15
  have s17 := s16.pick 3
  simp only [List.getElem_cons_succ, List.getElem_cons_zero, List.eraseIdx_cons_succ, List.eraseIdx_cons_zero] at s17
  clear s16
  have hcb4 := (s17.pick 4).cells
  have hfb4 := (s17.pick 4).free
  have Q := Lib.hid s17
  clear s17
  go_wp2_with fail
  refine (chk9_s k' e' a' b' c' d' id' ps' ts' Q.out E2 HX.out.2.2.2).mono ?_
  rintro ee w9 ⟨rfl, s18⟩
  clear Q hcb4 hfb4
  have hs0 := mkB_size S
  have hs1 : decide (1024 < ((Go.Proofs.YtkhcdichdnbcmaaR.Ext.mkB S).size : Int)) = false := decide_eq_false (by rw [hs0]; omega)
  have hs2 : decide (1024 < (Go.Proofs.YtkhcdichdnbcmaaR.Ext.mkB S).size) = false := decide_eq_false (by rw [hs0]; omega)
  clear hs0 hSl
  by_cases h1 : E1 = 0
  · subst h1
    have HD := Lib.hid (hDX rfl)
    clear hDX
    have Q := Lib.hid s18
    clear s18
    go_wp2_with fail
    refine (HD.out _ _ Q.out).mono ?_
    rintro ee w10 ⟨A5, B5, n5, m5, p5, q5, rfl, s19⟩
    clear Q
    have s20 := s19.alloc #[.int .u8 k, .int .i64 e, .int .i64 a, .int .i64 b, .int .i64 c, .int .i64 d, .slice A5 n5 p5, .slice B5 m5 q5, .int .i64 id] tCm
    clear s19
    have s21 := s20.pick 6
    simp only [List.getElem_cons_succ, List.getElem_cons_zero, List.eraseIdx_cons_succ, List.eraseIdx_cons_zero] at s21
    clear s20
    have s22 := s21.pick 6
    simp only [List.getElem_cons_succ, List.getElem_cons_zero, List.eraseIdx_cons_succ, List.eraseIdx_cons_zero] at s22
    clear s21
    have s23 := s22.pick 4
    simp only [List.getElem_cons_succ, List.getElem_cons_zero, List.eraseIdx_cons_succ, List.eraseIdx_cons_zero] at s23
    clear s22
    have s24 := s23.pick 4
    simp only [List.getElem_cons_succ, List.getElem_cons_zero, List.eraseIdx_cons_succ, List.eraseIdx_cons_zero] at s24
    clear s23
    have hcb11 := (s24.pick 4).cells
    have hfb11 := (s24.pick 4).free
    have hcb3 := (s24.pick 8).cells
    have hfb3 := (s24.pick 8).free
    have Q := Lib.hid s24
    clear s24
    go_wp2_with fail
    refine (equ9_s k e a b c d id k e a b c d id ps ps ts ts (by omega) (by omega) true (by simp) Q.out).mono ?_
    rintro ee w11 ⟨rfl, s25⟩
    clear Q hcb11 hfb11 hcb3 hfb3
    have s26 := s25.pick 4
    simp only [List.getElem_cons_succ, List.getElem_cons_zero, List.eraseIdx_cons_succ, List.eraseIdx_cons_zero] at s26
    clear s25
    have s27 := s26.drop
    clear s26
    have s28 := s27.drop
    clear s27
    have s29 := s28.drop
    clear s28
    by_cases h2 : E2 = 0
    · subst h2
      have s30 := s29.pick 3
      simp only [List.getElem_cons_succ, List.getElem_cons_zero, List.eraseIdx_cons_succ, List.eraseIdx_cons_zero] at s30
      clear s29
      have s31 := s30.pick 3
      simp only [List.getElem_cons_succ, List.getElem_cons_zero, List.eraseIdx_cons_succ, List.eraseIdx_cons_zero] at s31
      clear s30
      have s32 := s31.pick 3
      simp only [List.getElem_cons_succ, List.getElem_cons_zero, List.eraseIdx_cons_succ, List.eraseIdx_cons_zero] at s32
      clear s31
      have s33 := s32.pick 3
      simp only [List.getElem_cons_succ, List.getElem_cons_zero, List.eraseIdx_cons_succ, List.eraseIdx_cons_zero] at s33
      clear s32
      go_upto_region 12 with fail
      obtain ⟨N, hN⟩ : ∃ N, N = min X.length Y.length := ⟨_, rfl⟩
      have hm1 : ∀ (inst : Decidable ((Go.Proofs.YtkhcdichdnbcmaaR.Ext.mkB Y).size < (Go.Proofs.YtkhcdichdnbcmaaR.Ext.mkB X).size)), @ite Int ((Go.Proofs.YtkhcdichdnbcmaaR.Ext.mkB Y).size < (Go.Proofs.YtkhcdichdnbcmaaR.Ext.mkB X).size) inst ((Go.Proofs.YtkhcdichdnbcmaaR.Ext.mkB Y).size : Int) ((Go.Proofs.YtkhcdichdnbcmaaR.Ext.mkB X).size : Int) = (N : Int) := by
        intro inst
        have hlx := mkB_size X
        have hly := mkB_size Y
        split <;> omega
      rw [hm1]
      clear hm1
      obtain ⟨bb, hbb⟩ : ∃ bb, decide ((⟨k, e, spOf a b c d ps ts, id⟩ : CM) = (⟨k', e', spOf a' b' c' d' ps' ts', id'⟩ : CM)) = bb := ⟨_, rfl⟩
      have hq := hEq trivial trivial N hN
      rw [hbb] at hq
      have hslX := slice_to X N (by omega)
      have hslY := slice_to Y N (by omega)
      have HBB := Lib.hid hbb
      clear hbb hEq
      have HN := Lib.hid hN
      clear hN
      generalize X.take N = XN at *
      generalize Y.take N = YN at *
      refine start_ (n := 11) (S := fun w' => w'.cell? ⟨b3, 0, none⟩ = some (.int .u8 k) ∧ w'.cell? ⟨b3, 1, none⟩ = some (.int .i64 e) ∧ w'.cell? ⟨b3, 2, none⟩ = some (.int .i64 a) ∧ w'.cell? ⟨b3, 3, none⟩ = some (.int .i64 b) ∧ w'.cell? ⟨b3, 4, none⟩ = some (.int .i64 c) ∧ w'.cell? ⟨b3, 5, none⟩ = some (.int .i64 d) ∧ w'.cell? ⟨b3, 6, none⟩ = some (.slice A1 n1 p1) ∧ w'.cell? ⟨b3, 7, none⟩ = some (.slice B1 m1 q1) ∧ w'.cell? ⟨b3, 8, none⟩ = some (.int .i64 id) ∧ w'.cell? ⟨b4, 0, none⟩ = some (.int .u8 k') ∧ w'.cell? ⟨b4, 1, none⟩ = some (.int .i64 e') ∧ w'.cell? ⟨b4, 2, none⟩ = some (.int .i64 a') ∧ w'.cell? ⟨b4, 3, none⟩ = some (.int .i64 b') ∧ w'.cell? ⟨b4, 4, none⟩ = some (.int .i64 c') ∧ w'.cell? ⟨b4, 5, none⟩ = some (.int .i64 d') ∧ w'.cell? ⟨b4, 6, none⟩ = some (.slice A2 n2 p2) ∧ w'.cell? ⟨b4, 7, none⟩ = some (.slice B2 m2 q2) ∧ w'.cell? ⟨b4, 8, none⟩ = some (.int .i64 id')) (ds := []) #[false, false, false, false, false, false, false, false, false, false, false] (by kernel_rfl) rfl rfl ⟨(s33.pick 5).cells 0, (s33.pick 5).cells 1, (s33.pick 5).cells 2, (s33.pick 5).cells 3, (s33.pick 5).cells 4, (s33.pick 5).cells 5, (s33.pick 5).cells 6, (s33.pick 5).cells 7, (s33.pick 5).cells 8, (s33.pick 4).cells 0, (s33.pick 4).cells 1, (s33.pick 4).cells 2, (s33.pick 4).cells 3, (s33.pick 4).cells 4, (s33.pick 4).cells 5, (s33.pick 4).cells 6, (s33.pick 4).cells 7, (s33.pick 4).cells 8⟩ (fun hHeld => ?_)
      have sd := s33.drew
      clear s33
      generalize w11.drew = wd at *
      refine pure_ (i := 0) (N := some 73) (v := ?_) (a' := ?_) #[true, false, false, false, false, false, false, false, false, false, false] rfl rfl (by kernel_rfl) (fun _ _ _ h => h) (Or.inl ⟨by rfl, ?_⟩) ?_ ?_
      rotate_left
      · intro w'
        go_simp
        with_reducible rfl
      rotate_left
      · simp only [Act.put, List.setIfInBounds_toArray, List.set_cons_zero, List.set_cons_succ, i64_w, i32_w]
        rfl
      refine pure_ (i := 1) (N := some 74) (v := ?_) (a' := ?_) #[true, true, false, false, false, false, false, false, false, false, false] rfl rfl (by kernel_rfl) (fun _ _ _ h => h) (Or.inl ⟨by rfl, ?_⟩) ?_ ?_
      rotate_left
      · intro w'
        go_simp
        with_reducible rfl
      rotate_left
      · simp only [Act.put, List.setIfInBounds_toArray, List.set_cons_zero, List.set_cons_succ, i64_w, i32_w]
        rfl
      refine pure_ (i := 2) (N := some 75) (v := (.string (Go.Proofs.YtkhcdichdnbcmaaR.Ext.mkB XN))) (a' := ?_) #[true, true, true, false, false, false, false, false, false, false, false] rfl rfl (by kernel_rfl) (fun _ _ _ h => h) (Or.inl ⟨by rfl, ?_⟩) ?_ ?_
      · intro w'
        go_simp
      rotate_left
      · simp only [Act.put, List.setIfInBounds_toArray, List.set_cons_zero, List.set_cons_succ, i64_w, i32_w]
        rfl
      refine pure_ (i := 3) (N := some 76) (v := ?_) (a' := ?_) #[true, true, true, true, false, false, false, false, false, false, false] rfl rfl (by kernel_rfl) (fun _ _ _ h => h) (Or.inl ⟨by rfl, ?_⟩) ?_ ?_
      rotate_left
      · intro w'
        go_simp
        with_reducible rfl
      rotate_left
      · simp only [Act.put, List.setIfInBounds_toArray, List.set_cons_zero, List.set_cons_succ, i64_w, i32_w]
        rfl
      refine pure_ (i := 4) (N := some 77) (v := ?_) (a' := ?_) #[true, true, true, true, true, false, false, false, false, false, false] rfl rfl (by kernel_rfl) (fun _ _ _ h => h) (Or.inl ⟨by rfl, ?_⟩) ?_ ?_
      rotate_left
      · intro w'
        go_simp
        with_reducible rfl
      rotate_left
      · simp only [Act.put, List.setIfInBounds_toArray, List.set_cons_zero, List.set_cons_succ, i64_w, i32_w]
        rfl
      refine pure_ (i := 5) (N := some 78) (v := (.string (Go.Proofs.YtkhcdichdnbcmaaR.Ext.mkB YN))) (a' := ?_) #[true, true, true, true, true, true, false, false, false, false, false] rfl rfl (by kernel_rfl) (fun _ _ _ h => h) (Or.inl ⟨by rfl, ?_⟩) ?_ ?_
      · intro w'
        go_simp
      rotate_left
      · simp only [Act.put, List.setIfInBounds_toArray, List.set_cons_zero, List.set_cons_succ, i64_w, i32_w]
        rfl
      refine pure_ (i := 6) (N := some 79) (v := (.bool bb)) (a' := ?_) #[true, true, true, true, true, true, true, false, false, false, false] rfl rfl (by kernel_rfl) (fun _ _ _ h => h) (Or.inl ⟨by rfl, ?_⟩) ?_ ?_
      · intro w'
        go_simp
      rotate_left
      · simp only [Act.put, List.setIfInBounds_toArray, List.set_cons_zero, List.set_cons_succ, i64_w, i32_w]
        rfl
      refine take_ (i := 7) (N := some 80) (v := ?_) (a' := ?_) #[true, true, true, true, true, true, true, true, false, false, false] rfl rfl (by kernel_rfl) (fun _ _ _ h => h) (Or.inl ⟨by rfl, ?_⟩) hHeld ?_ ?_
      rotate_left
      · rintro w' ⟨s0, s1, s2, s3, s4, s5, s6, s7, s8, s9, s10, s11, s12, s13, s14, s15, s16, s17⟩
        go_simp
        with_reducible rfl
      rotate_left
      · simp only [Act.put, List.setIfInBounds_toArray, List.set_cons_zero, List.set_cons_succ, i64_w, i32_w]
        rfl
      refine take_ (i := 8) (N := some 81) (v := ?_) (a' := ?_) #[true, true, true, true, true, true, true, true, true, false, false] rfl rfl (by kernel_rfl) (fun _ _ _ h => h) (Or.inl ⟨by rfl, ?_⟩) hHeld ?_ ?_
      rotate_left
      · rintro w' ⟨s0, s1, s2, s3, s4, s5, s6, s7, s8, s9, s10, s11, s12, s13, s14, s15, s16, s17⟩
        go_simp
        with_reducible rfl
      rotate_left
      · simp only [Act.put, List.setIfInBounds_toArray, List.set_cons_zero, List.set_cons_succ, i64_w, i32_w]
        rfl
      refine one_ (i := 9) (N := some 82) #[true, true, true, true, true, true, true, true, true, true, false] rfl rfl (by kernel_rfl) (by decide) (fun K hK => ?_)
      refine goes_ Try.func19 (by kernel_rfl) rfl #[.agg #[.int .u8 k, .int .i64 e, .int .i64 a, .int .i64 b, .int .i64 c, .int .i64 d, .slice A1 n1 p1, .slice B1 m1 q1, .int .i64 id], .agg #[.int .u8 k', .int .i64 e', .int .i64 a', .int .i64 b', .int .i64 c', .int .i64 d', .slice A2 n2 p2, .slice B2 m2 q2, .int .i64 id']] (by rfl) rfl rfl (by (try simp only [List.map_toArray, List.map_cons, List.map_nil]); first | done | rfl) ?_
      with_reducible refine (equ9_s k e a b c d id k' e' a' b' c' d' id' ps ps' ts ts' (by omega) (by omega) bb HBB.out sd).mono ?_
      rintro ee we ⟨rfl, se⟩
      refine ⟨_, rfl, ?_⟩
      refine hK.out _ _ ⟨(se.pick 5).cells 0, (se.pick 5).cells 1, (se.pick 5).cells 2, (se.pick 5).cells 3, (se.pick 5).cells 4, (se.pick 5).cells 5, (se.pick 5).cells 6, (se.pick 5).cells 7, (se.pick 5).cells 8, (se.pick 4).cells 0, (se.pick 4).cells 1, (se.pick 4).cells 2, (se.pick 4).cells 3, (se.pick 4).cells 4, (se.pick 4).cells 5, (se.pick 4).cells 6, (se.pick 4).cells 7, (se.pick 4).cells 8⟩ (fun hHeld => ?_)
      clear hK K sd
      refine norm_ (a' := ?_) ?_ ?_
      rotate_left
      · show Act.put _ (some 82) _ = _
        simp only [Act.put, List.setIfInBounds_toArray, List.set_cons_zero, List.set_cons_succ, i64_w, i32_w]
        rfl
      refine pure_ (i := 10) (N := some 83) (v := (.bool false)) (a' := ?_) #[true, true, true, true, true, true, true, true, true, true, true] rfl rfl (by kernel_rfl) (fun _ _ _ h => h) (Or.inl ⟨by rfl, ?_⟩) ?_ ?_
      · intro w'
        go_simp
      rotate_left
      · simp only [Act.put, List.setIfInBounds_toArray, List.set_cons_zero, List.set_cons_succ, i64_w, i32_w]
        rfl
      refine done_ (by kernel_rfl) ?_
      clear hHeld hq hslX hslY HBB HN
      have Q := Lib.hid se
      clear se
      go_wp2_with fail
      refine (HS.out _ _ Q.out).mono ?_
      rintro ee w12 ⟨A7, B7, n7, m7, p7, q7, rfl, s34⟩
      clear Q
      have s35 := s34.alloc #[.int .u8 0, .int .i64 0, .int .i64 0, .int .i64 0, .int .i64 0, .int .i64 0, .slice A7 n7 p7, .slice B7 m7 q7, .int .i64 0] tCm
      clear s34
      have Q := Lib.hid s35
      clear s35
      have hcb14 := Q.out.cells
      go_wp2_with fail
      have z1 := Q.out.pick 1
      simp only [List.getElem_cons_succ, List.getElem_cons_zero, List.eraseIdx_cons_succ, List.eraseIdx_cons_zero] at z1
      have z2 := z1.pick 2
      simp only [List.getElem_cons_succ, List.getElem_cons_zero, List.eraseIdx_cons_succ, List.eraseIdx_cons_zero] at z2
      have z3 := z2.pick 1
      simp only [List.getElem_cons_succ, List.getElem_cons_zero, List.eraseIdx_cons_succ, List.eraseIdx_cons_zero] at z3
      clear z1 z2
      refine (equ9_n 0 0 0 0 0 0 0 0 0 0 [] [] (by simp) (by simp) true (by decide +kernel) z3).mono ?_
      rintro ee wa ⟨rfl, y1⟩
      clear z3 Q hcb14
      have Q := Lib.hid y1
      clear y1
      go_wp2_with fail
      refine (awake18 Q.out).mono ?_
      rintro ee wc ⟨rfl, y3⟩
      clear Q
      have HB := Lib.hid y3.bel
      clear y3
      go_wp2
      go_returns
      exact ⟨rfl, HB.out⟩
    · have h2b : (E2 == 0) = false := beq_eq_false_iff_ne.mpr h2
      clear h2 hEq
      have Q := Lib.hid s29
      clear s29
      go_wp2_with fail
      refine (HS.out _ _ Q.out).mono ?_
      rintro ee w12 ⟨A7, B7, n7, m7, p7, q7, rfl, s30⟩
      clear Q
      have s31 := s30.alloc #[.int .u8 0, .int .i64 0, .int .i64 0, .int .i64 0, .int .i64 0, .int .i64 0, .slice A7 n7 p7, .slice B7 m7 q7, .int .i64 0] tCm
      clear s30
      have Q := Lib.hid s31
      clear s31
      have hcb14 := Q.out.cells
      go_wp2_with fail
      have z1 := Q.out.pick 1
      simp only [List.getElem_cons_succ, List.getElem_cons_zero, List.eraseIdx_cons_succ, List.eraseIdx_cons_zero] at z1
      have z2 := z1.pick 2
      simp only [List.getElem_cons_succ, List.getElem_cons_zero, List.eraseIdx_cons_succ, List.eraseIdx_cons_zero] at z2
      have z3 := z2.pick 1
      simp only [List.getElem_cons_succ, List.getElem_cons_zero, List.eraseIdx_cons_succ, List.eraseIdx_cons_zero] at z3
      clear z1 z2
      refine (equ9_n 0 0 0 0 0 0 0 0 0 0 [] [] (by simp) (by simp) true (by decide +kernel) z3).mono ?_
      rintro ee wa ⟨rfl, y1⟩
      clear z3 Q hcb14
      have Q := Lib.hid y1
      clear y1
      go_wp2_with fail
      refine (awake18 Q.out).mono ?_
      rintro ee wc ⟨rfl, y3⟩
      clear Q
      have HB := Lib.hid y3.bel
      clear y3
      go_wp2
      go_returns
      exact ⟨rfl, HB.out⟩
  · have h1b : (E1 == 0) = false := beq_eq_false_iff_ne.mpr h1
    clear h1 hEq hDX
    have Q := Lib.hid s18
    clear s18
    go_wp2_with fail
    refine (HS.out _ _ Q.out).mono ?_
    rintro ee w10 ⟨A7, B7, n7, m7, p7, q7, rfl, s19⟩
    clear Q
    have s20 := s19.alloc #[.int .u8 0, .int .i64 0, .int .i64 0, .int .i64 0, .int .i64 0, .int .i64 0, .slice A7 n7 p7, .slice B7 m7 q7, .int .i64 0] tCm
    clear s19
    have Q := Lib.hid s20
    clear s20
    have hcb14 := Q.out.cells
    go_wp2_with fail
    have z1 := Q.out.pick 1
    simp only [List.getElem_cons_succ, List.getElem_cons_zero, List.eraseIdx_cons_succ, List.eraseIdx_cons_zero] at z1
    have z2 := z1.pick 2
    simp only [List.getElem_cons_succ, List.getElem_cons_zero, List.eraseIdx_cons_succ, List.eraseIdx_cons_zero] at z2
    have z3 := z2.pick 1
    simp only [List.getElem_cons_succ, List.getElem_cons_zero, List.eraseIdx_cons_succ, List.eraseIdx_cons_zero] at z3
    clear z1 z2
    refine (equ9_n 0 0 0 0 0 0 0 0 0 0 [] [] (by simp) (by simp) true (by decide +kernel) z3).mono ?_
    rintro ee wa ⟨rfl, y1⟩
    clear z3 Q hcb14
    have Q := Lib.hid y1
    clear y1
    go_wp2_with fail
    refine (awake18 Q.out).mono ?_
    rintro ee wc ⟨rfl, y3⟩
    clear Q
    have HB := Lib.hid y3.bel
    clear y3
    go_wp2
    go_returns
    exact ⟨rfl, HB.out⟩
set_option maxRecDepth 100000 in
set_option maxHeartbeats 16000000 in
theorem back_0 (k e a b c d id k' e' a' b' c' d' id' : Int) (A B A' B' : Option Addr) (n m p q n' m' p' q' : Nat) (ps ps' : List Int) (ts ts' : List TX) (t S : List UInt8) (k2 e2 a2 b2 c2 d2 id2 : Int) (ps2 : List Int) (ts2 : List TX) (X Y : List UInt8) (E1 E2 : Int) (w : World)
    (hF1 : ∀ L, FewOf w L a b c d A B n m p q ps ts) (hF2 : ∀ L, FewOf w L a' b' c' d' A' B' n' m' p' q' ps' ts') (hS : t.take (min t.length 1100) = S) (hps : ps.length ≤ 20) (hts : ts.length ≤ 10) (hps' : ps'.length ≤ 20) (hts' : ts'.length ≤ 10)
    (hX : Sp.encCR (⟨k, e, spOf a b c d ps ts, id⟩ : CM) = X) (hE1 : Sp.cmdE (⟨k, e, spOf a b c d ps ts, id⟩ : CM) = E1) (hY : Sp.encCR (⟨k', e', spOf a' b' c' d' ps' ts', id'⟩ : CM) = Y) (hE2 : Sp.cmdE (⟨k', e', spOf a' b' c' d' ps' ts', id'⟩ : CM) = E2)
    (hDX : E1 = 0 → ∀ (W : World) (M : List HP), St w W M → Calls Try.prog 20 #[.string (Go.Proofs.YtkhcdichdnbcmaaR.Ext.mkB X)] W fun ee w' => ∃ A B n m p q, ee = .returned (.tuple #[.agg #[.int .u8 k, .int .i64 e, .int .i64 a, .int .i64 b, .int .i64 c, .int .i64 d, .slice A n p, .slice B m q, .int .i64 id], .int .i64 0]) ∧ St w w' (RI (.slice A n p) ps :: RT (.slice B m q) ts :: M))
    (hEq : E1 = 0 → E2 = 0 → ∀ N : Nat, N = min X.length Y.length → (((Go.Proofs.YtkhcdichdnbcmaaR.Ext.mkB (X.take N)).toList == (Go.Proofs.YtkhcdichdnbcmaaR.Ext.mkB (Y.take N)).toList) = decide ((⟨k, e, spOf a b c d ps ts, id⟩ : CM) = (⟨k', e', spOf a' b' c' d' ps' ts', id'⟩ : CM))))
    (HS : Go.RowKit.Hid (∀ (W : World) (M : List HP), St w W M → Calls Try.prog 20 #[.string (Go.Proofs.YtkhcdichdnbcmaaR.Ext.mkB S)] W fun ee w' => ∃ A B n m p q, ee = .returned (.tuple #[.agg #[.int .u8 k2, .int .i64 e2, .int .i64 a2, .int .i64 b2, .int .i64 c2, .int .i64 d2, .slice A n p, .slice B m q, .int .i64 id2], .int .i64 0]) ∧ St w w' (RI (.slice A n p) ps2 :: RT (.slice B m q) ts2 :: M))) (HT : Go.RowKit.Hid (Sp.encCR (⟨k2, e2, spOf a2 b2 c2 d2 ps2 ts2, id2⟩ : CM) = S ∧ Sp.cmdE (⟨k2, e2, spOf a2 b2 c2 d2 ps2 ts2, id2⟩ : CM) = 0)) :
    Calls Try.prog 7 #[.agg #[.int .u8 k, .int .i64 e, .int .i64 a, .int .i64 b, .int .i64 c, .int .i64 d, .slice A n p, .slice B m q, .int .i64 id], .agg #[.int .u8 k', .int .i64 e', .int .i64 a', .int .i64 b', .int .i64 c', .int .i64 d', .slice A' n' p', .slice B' m' q', .int .i64 id'], .string (Go.Proofs.YtkhcdichdnbcmaaR.Ext.mkB t)] w fun ee w' => ee = .returned (.bool true) ∧ Below w.heap.size w w' := by
  have HF1 := Lib.hid hF1
  have HF2 := Lib.hid hF2
  clear hF1 hF2
  have hlen : (Go.Proofs.YtkhcdichdnbcmaaR.Ext.mkB t).size = t.length := mkB_size t
  have hsl := slice_to t (min t.length 1100) (by omega)
  rw [hS] at hsl
  have s1 : St w ((w.alloc (Obj.cells #[.int .u8 k, .int .i64 e, .int .i64 a, .int .i64 b, .int .i64 c, .int .i64 d, .slice A n p, .slice B m q, .int .i64 id] tCm)).alloc (Obj.cells #[.int .u8 k', .int .i64 e', .int .i64 a', .int .i64 b', .int .i64 c', .int .i64 d', .slice A' n' p', .slice B' m' q', .int .i64 id'] tCm)) [blk (w.heap.size + 1) #[.int .u8 k', .int .i64 e', .int .i64 a', .int .i64 b', .int .i64 c', .int .i64 d', .slice A' n' p', .slice B' m' q', .int .i64 id'] tCm, blk w.heap.size #[.int .u8 k, .int .i64 e, .int .i64 a, .int .i64 b, .int .i64 c, .int .i64 d, .slice A n p, .slice B m q, .int .i64 id] tCm] := by
    simpa using ((St.start w).alloc #[.int .u8 k, .int .i64 e, .int .i64 a, .int .i64 b, .int .i64 c, .int .i64 d, .slice A n p, .slice B m q, .int .i64 id] tCm).alloc #[.int .u8 k', .int .i64 e', .int .i64 a', .int .i64 b', .int .i64 c', .int .i64 d', .slice A' n' p', .slice B' m' q', .int .i64 id'] tCm
  go_enter Try.func7, Try.ntmps7
  go_wp2_with fail
  generalize ((w.alloc (Obj.cells #[.int .u8 k, .int .i64 e, .int .i64 a, .int .i64 b, .int .i64 c, .int .i64 d, .slice A n p, .slice B m q, .int .i64 id] tCm)).alloc (Obj.cells #[.int .u8 k', .int .i64 e', .int .i64 a', .int .i64 b', .int .i64 c', .int .i64 d', .slice A' n' p', .slice B' m' q', .int .i64 id'] tCm)) = w1 at *
  generalize hB4 : w.heap.size + 1 = b4 at *
  generalize hB3 : w.heap.size = b3 at *
  have HB3 := Lib.hid hB3
  clear hB3 hB4
  refine start_ (n := 12) (S := fun w' => w'.cell? ⟨b3, 0, none⟩ = some (.int .u8 k) ∧ w'.cell? ⟨b3, 1, none⟩ = some (.int .i64 e) ∧ w'.cell? ⟨b3, 2, none⟩ = some (.int .i64 a) ∧ w'.cell? ⟨b3, 3, none⟩ = some (.int .i64 b) ∧ w'.cell? ⟨b3, 4, none⟩ = some (.int .i64 c) ∧ w'.cell? ⟨b3, 5, none⟩ = some (.int .i64 d) ∧ w'.cell? ⟨b3, 6, none⟩ = some (.slice A n p) ∧ w'.cell? ⟨b3, 7, none⟩ = some (.slice B m q) ∧ w'.cell? ⟨b3, 8, none⟩ = some (.int .i64 id) ∧ w'.cell? ⟨b4, 0, none⟩ = some (.int .u8 k') ∧ w'.cell? ⟨b4, 1, none⟩ = some (.int .i64 e') ∧ w'.cell? ⟨b4, 2, none⟩ = some (.int .i64 a') ∧ w'.cell? ⟨b4, 3, none⟩ = some (.int .i64 b') ∧ w'.cell? ⟨b4, 4, none⟩ = some (.int .i64 c') ∧ w'.cell? ⟨b4, 5, none⟩ = some (.int .i64 d') ∧ w'.cell? ⟨b4, 6, none⟩ = some (.slice A' n' p') ∧ w'.cell? ⟨b4, 7, none⟩ = some (.slice B' m' q') ∧ w'.cell? ⟨b4, 8, none⟩ = some (.int .i64 id')) (ds := [9, 10, 11]) #[false, false, false, false, false, false, false, false, false, false, false, false] (by kernel_rfl) rfl rfl ⟨(s1.pick 1).cells 0, (s1.pick 1).cells 1, (s1.pick 1).cells 2, (s1.pick 1).cells 3, (s1.pick 1).cells 4, (s1.pick 1).cells 5, (s1.pick 1).cells 6, (s1.pick 1).cells 7, (s1.pick 1).cells 8, (s1).cells 0, (s1).cells 1, (s1).cells 2, (s1).cells 3, (s1).cells 4, (s1).cells 5, (s1).cells 6, (s1).cells 7, (s1).cells 8⟩ (fun hHeld => ?_)
  have s1d := s1.drew
  clear s1
  generalize w1.drew = w1d at *
  refine pure_ (i := 4) (N := some 22) (v := ?_) (a' := ?_) #[false, false, false, false, true, false, false, false, false, false, false, false] rfl rfl (by kernel_rfl) (fun _ _ _ h => h) (Or.inl ⟨by rfl, ?_⟩) ?_ ?_
  rotate_left
  · intro w'
    go_simp
    with_reducible rfl
  rotate_left
  · simp only [Act.put, List.setIfInBounds_toArray, List.set_cons_zero, List.set_cons_succ, i64_w, i32_w]
    rfl
  refine pure_ (i := 5) (N := some 23) (v := ?_) (a' := ?_) #[false, false, false, false, true, true, false, false, false, false, false, false] rfl rfl (by kernel_rfl) (fun _ _ _ h => h) (Or.inl ⟨by rfl, ?_⟩) ?_ ?_
  rotate_left
  · intro w'
    go_simp
    with_reducible rfl
  rotate_left
  · simp only [Act.put, List.setIfInBounds_toArray, List.set_cons_zero, List.set_cons_succ, i64_w, i32_w]
    rfl
  refine pure_ (i := 6) (N := some 24) (v := (.int .i64 (t.length : Int))) (a' := ?_) #[false, false, false, false, true, true, true, false, false, false, false, false] rfl rfl (by kernel_rfl) (fun _ _ _ h => h) (Or.inl ⟨by rfl, ?_⟩) ?_ ?_
  · intro w'
    go_simp
  rotate_left
  · simp only [Act.put, List.setIfInBounds_toArray, List.set_cons_zero, List.set_cons_succ, i64_w, i32_w]
    rfl
  refine pure_ (i := 7) (N := some 25) (v := (.int .i64 ((min t.length 1100 : Nat) : Int))) (a' := ?_) #[false, false, false, false, true, true, true, true, false, false, false, false] rfl rfl (by kernel_rfl) (fun _ _ _ h => h) (Or.inl ⟨by rfl, ?_⟩) ?_ ?_
  · intro w'
    go_simp
    split <;> omega
  rotate_left
  · simp only [Act.put, List.setIfInBounds_toArray, List.set_cons_zero, List.set_cons_succ, i64_w, i32_w]
    rfl
  refine pure_ (i := 8) (N := some 26) (v := (.string (Go.Proofs.YtkhcdichdnbcmaaR.Ext.mkB S))) (a' := ?_) #[false, false, false, false, true, true, true, true, true, false, false, false] rfl rfl (by kernel_rfl) (fun _ _ _ h => h) (Or.inl ⟨by rfl, ?_⟩) ?_ ?_
  · intro w'
    go_simp
  rotate_left
  · simp only [Act.put, List.setIfInBounds_toArray, List.set_cons_zero, List.set_cons_succ, i64_w, i32_w]
    rfl
  refine take_ (i := 0) (N := some 18) (v := ?_) (a' := ?_) #[true, false, false, false, true, true, true, true, true, false, false, false] rfl rfl (by kernel_rfl) (fun _ _ _ h => h) (Or.inl ⟨by rfl, ?_⟩) hHeld ?_ ?_
  rotate_left
  · rintro w' ⟨s0, s1, s2, s3, s4, s5, s6, s7, s8, s9, s10, s11, s12, s13, s14, s15, s16, s17⟩
    go_simp
    with_reducible rfl
  rotate_left
  · simp only [Act.put, List.setIfInBounds_toArray, List.set_cons_zero, List.set_cons_succ, i64_w, i32_w]
    rfl
  refine take_ (i := 2) (N := some 20) (v := ?_) (a' := ?_) #[true, false, true, false, true, true, true, true, true, false, false, false] rfl rfl (by kernel_rfl) (fun _ _ _ h => h) (Or.inl ⟨by rfl, ?_⟩) hHeld ?_ ?_
  rotate_left
  · rintro w' ⟨s0, s1, s2, s3, s4, s5, s6, s7, s8, s9, s10, s11, s12, s13, s14, s15, s16, s17⟩
    go_simp
    with_reducible rfl
  rotate_left
  · simp only [Act.put, List.setIfInBounds_toArray, List.set_cons_zero, List.set_cons_succ, i64_w, i32_w]
    rfl
  refine one_ (i := 1) (N := some 19) #[true, true, true, false, true, true, true, true, true, false, false, false] rfl rfl (by kernel_rfl) (by decide) (fun K hK => ?_)
  refine goes_ Try.func12 (by kernel_rfl) rfl #[.agg #[.int .u8 k, .int .i64 e, .int .i64 a, .int .i64 b, .int .i64 c, .int .i64 d, .slice A n p, .slice B m q, .int .i64 id]] (by rfl) rfl rfl (by (try simp only [List.map_toArray, List.map_cons, List.map_nil]); first | done | rfl) ?_
  with_reducible refine (few9 k e a b c d A B n m p q id ps ts s1d (HF1.out _)).mono ?_
  rintro ee w2 ⟨A1, B1, p1, q1, n1, m1, rfl, s2⟩
  refine ⟨_, rfl, ?_⟩
  refine hK.out _ _ ⟨(s2.pick 3).cells 0, (s2.pick 3).cells 1, (s2.pick 3).cells 2, (s2.pick 3).cells 3, (s2.pick 3).cells 4, (s2.pick 3).cells 5, (s2.pick 3).cells 6, (s2.pick 3).cells 7, (s2.pick 3).cells 8, (s2.pick 2).cells 0, (s2.pick 2).cells 1, (s2.pick 2).cells 2, (s2.pick 2).cells 3, (s2.pick 2).cells 4, (s2.pick 2).cells 5, (s2.pick 2).cells 6, (s2.pick 2).cells 7, (s2.pick 2).cells 8⟩ (fun hHeld => ?_)
  clear hK K s1d
  refine norm_ (a' := ?_) ?_ ?_
  rotate_left
  · show Act.put _ (some 19) _ = _
    simp only [Act.put, List.setIfInBounds_toArray, List.set_cons_zero, List.set_cons_succ, i64_w, i32_w]
    rfl
  refine one_ (i := 3) (N := some 21) #[true, true, true, true, true, true, true, true, true, false, false, false] rfl rfl (by kernel_rfl) (by decide) (fun K hK => ?_)
  refine goes_ Try.func12 (by kernel_rfl) rfl #[.agg #[.int .u8 k', .int .i64 e', .int .i64 a', .int .i64 b', .int .i64 c', .int .i64 d', .slice A' n' p', .slice B' m' q', .int .i64 id']] (by rfl) rfl rfl (by (try simp only [List.map_toArray, List.map_cons, List.map_nil]); first | done | rfl) ?_
  with_reducible refine (few9 k' e' a' b' c' d' A' B' n' m' p' q' id' ps' ts' s2 (HF2.out _)).mono ?_
  rintro ee w3 ⟨A2, B2, p2, q2, n2, m2, rfl, s3⟩
  refine ⟨_, rfl, ?_⟩
  refine hK.out _ _ ⟨(s3.pick 5).cells 0, (s3.pick 5).cells 1, (s3.pick 5).cells 2, (s3.pick 5).cells 3, (s3.pick 5).cells 4, (s3.pick 5).cells 5, (s3.pick 5).cells 6, (s3.pick 5).cells 7, (s3.pick 5).cells 8, (s3.pick 4).cells 0, (s3.pick 4).cells 1, (s3.pick 4).cells 2, (s3.pick 4).cells 3, (s3.pick 4).cells 4, (s3.pick 4).cells 5, (s3.pick 4).cells 6, (s3.pick 4).cells 7, (s3.pick 4).cells 8⟩ (fun hHeld => ?_)
  clear hK K s2
  refine norm_ (a' := ?_) ?_ ?_
  rotate_left
  · show Act.put _ (some 21) _ = _
    simp only [Act.put, List.setIfInBounds_toArray, List.set_cons_zero, List.set_cons_succ, i64_w, i32_w]
    rfl
  clear hHeld HF1 HF2
  have s4 := s3.pick 5
  simp only [List.getElem_cons_succ, List.getElem_cons_zero, List.eraseIdx_cons_succ, List.eraseIdx_cons_zero] at s4
  clear s3
  refine last_ (i := 9) (N := none) #[true, true, true, true, true, true, true, true, true, true, false, false] rfl rfl (by kernel_rfl) (by decide) (fun K hK => ?_)
  refine skip_ (w1 := w3.setRow b3 #[.int .u8 k, .int .i64 e, .int .i64 a, .int .i64 b, .int .i64 c, .int .i64 d, .slice A1 n1 p1, .slice B1 m1 q1, .int .i64 id]) (by rfl) rfl (run_storeM w3 _ _ 29 rfl b3 0 #[.int .u8 k, .int .i64 e, .int .i64 a, .int .i64 b, .int .i64 c, .int .i64 d, .slice A1 n1 p1, .slice B1 m1 q1, .int .i64 id] size_cmd rfl rfl rfl s4.at0 (by simp) (by simp [Value.oneCell']) rfl) ?_
  refine hK.out _ _ ?_
  clear hK K
  have s5 := (s4.setRow #[.int .u8 k, .int .i64 e, .int .i64 a, .int .i64 b, .int .i64 c, .int .i64 d, .slice A1 n1 p1, .slice B1 m1 q1, .int .i64 id]).pick 5
  simp only [List.getElem_cons_succ, List.getElem_cons_zero, List.eraseIdx_cons_succ, List.eraseIdx_cons_zero] at s5
  clear s4
  generalize w3.setRow b3 #[.int .u8 k, .int .i64 e, .int .i64 a, .int .i64 b, .int .i64 c, .int .i64 d, .slice A1 n1 p1, .slice B1 m1 q1, .int .i64 id] = w4 at *
  refine last_ (i := 10) (N := none) #[true, true, true, true, true, true, true, true, true, true, true, false] rfl rfl (by kernel_rfl) (by decide) (fun K hK => ?_)
  refine skip_ (w1 := w4.setRow b4 #[.int .u8 k', .int .i64 e', .int .i64 a', .int .i64 b', .int .i64 c', .int .i64 d', .slice A2 n2 p2, .slice B2 m2 q2, .int .i64 id']) (by rfl) rfl (run_storeM w4 _ _ 29 rfl b4 0 #[.int .u8 k', .int .i64 e', .int .i64 a', .int .i64 b', .int .i64 c', .int .i64 d', .slice A2 n2 p2, .slice B2 m2 q2, .int .i64 id'] size_cmd rfl rfl rfl s5.at0 (by simp) (by simp [Value.oneCell']) rfl) ?_
  refine hK.out _ _ ?_
  clear hK K
  have s6 := s5.setRow #[.int .u8 k', .int .i64 e', .int .i64 a', .int .i64 b', .int .i64 c', .int .i64 d', .slice A2 n2 p2, .slice B2 m2 q2, .int .i64 id']
  clear s5
  generalize w4.setRow b4 #[.int .u8 k', .int .i64 e', .int .i64 a', .int .i64 b', .int .i64 c', .int .i64 d', .slice A2 n2 p2, .slice B2 m2 q2, .int .i64 id'] = w5 at *
  refine pure_ (i := 11) (N := some 2) (v := (.string (Go.Proofs.YtkhcdichdnbcmaaR.Ext.mkB S))) (a' := ?_) #[true, true, true, true, true, true, true, true, true, true, true, true] rfl rfl (by kernel_rfl) (fun _ _ _ h => h) (Or.inl ⟨by rfl, ?_⟩) ?_ ?_
  · intro w'
    go_simp
  rotate_left
  · simp only [Act.put, List.setIfInBounds_toArray, List.set_cons_zero, List.set_cons_succ, i64_w, i32_w]
    rfl
  refine done_ (by kernel_rfl) ?_
  clear hsl hlen
  have HX := Lib.hid (And.intro hX (And.intro hE1 (And.intro hY hE2)))
  clear hX hE1 hY hE2
  have s7 := s6.pick 5
  simp only [List.getElem_cons_succ, List.getElem_cons_zero, List.eraseIdx_cons_succ, List.eraseIdx_cons_zero] at s7
  clear s6
  have s8 := s7.pick 5
  simp only [List.getElem_cons_succ, List.getElem_cons_zero, List.eraseIdx_cons_succ, List.eraseIdx_cons_zero] at s8
  clear s7
  have hcb3 := (s8.pick 3).cells
  have hfb3 := (s8.pick 3).free
  have Q := Lib.hid s8
  clear s8
  go_wp2_with fail
  refine (enc9_s k e a b c d id ps ts Q.out X E1 HX.out.1 HX.out.2.1).mono ?_
  rintro ee w6 ⟨rfl, s9⟩
  clear Q hcb3 hfb3
  have s10 := s9.pick 5
  simp only [List.getElem_cons_succ, List.getElem_cons_zero, List.eraseIdx_cons_succ, List.eraseIdx_cons_zero] at s10
  clear s9
  have s11 := s10.pick 5
  simp only [List.getElem_cons_succ, List.getElem_cons_zero, List.eraseIdx_cons_succ, List.eraseIdx_cons_zero] at s11
  clear s10
  have hcb4 := (s11.pick 4).cells
  have hfb4 := (s11.pick 4).free
  have Q := Lib.hid s11
  clear s11
  go_wp2_with fail
  refine (enc9_s k' e' a' b' c' d' id' ps' ts' Q.out Y E2 HX.out.2.2.1 HX.out.2.2.2).mono ?_
  rintro ee w7 ⟨rfl, s12⟩
  clear Q hcb4 hfb4
  have s13 := s12.pick 3
  simp only [List.getElem_cons_succ, List.getElem_cons_zero, List.eraseIdx_cons_succ, List.eraseIdx_cons_zero] at s13
  clear s12
  have s14 := s13.pick 3
  simp only [List.getElem_cons_succ, List.getElem_cons_zero, List.eraseIdx_cons_succ, List.eraseIdx_cons_zero] at s14
  clear s13
  have hcb3 := (s14.pick 5).cells
  have hfb3 := (s14.pick 5).free
  have Q := Lib.hid s14
  clear s14
  go_wp2_with fail
  refine (chk9_s k e a b c d id ps ts Q.out E1 HX.out.2.1).mono ?_
  rintro ee w8 ⟨rfl, s15⟩
  clear Q hcb3 hfb3
  have s16 := s15.pick 3
  simp only [List.getElem_cons_succ, List.getElem_cons_zero, List.eraseIdx_cons_succ, List.eraseIdx_cons_zero] at s16
  clear s15
  have s17 := s16.pick 3
  simp only [List.getElem_cons_succ, List.getElem_cons_zero, List.eraseIdx_cons_succ, List.eraseIdx_cons_zero] at s17
  clear s16
  have hcb4 := (s17.pick 4).cells
  have hfb4 := (s17.pick 4).free
  have Q := Lib.hid s17
  clear s17
  go_wp2_with fail
  refine (chk9_s k' e' a' b' c' d' id' ps' ts' Q.out E2 HX.out.2.2.2).mono ?_
  rintro ee w9 ⟨rfl, s18⟩
  clear Q hcb4 hfb4
  by_cases h1 : E1 = 0
  · subst h1
    have HD := Lib.hid (hDX rfl)
    clear hDX
    have Q := Lib.hid s18
    clear s18
    go_wp2_with fail
    refine (HD.out _ _ Q.out).mono ?_
    rintro ee w10 ⟨A5, B5, n5, m5, p5, q5, rfl, s19⟩
    clear Q
    have s20 := s19.alloc #[.int .u8 k, .int .i64 e, .int .i64 a, .int .i64 b, .int .i64 c, .int .i64 d, .slice A5 n5 p5, .slice B5 m5 q5, .int .i64 id] tCm
    clear s19
    have s21 := s20.pick 6
    simp only [List.getElem_cons_succ, List.getElem_cons_zero, List.eraseIdx_cons_succ, List.eraseIdx_cons_zero] at s21
    clear s20
    have s22 := s21.pick 6
    simp only [List.getElem_cons_succ, List.getElem_cons_zero, List.eraseIdx_cons_succ, List.eraseIdx_cons_zero] at s22
    clear s21
    have s23 := s22.pick 4
    simp only [List.getElem_cons_succ, List.getElem_cons_zero, List.eraseIdx_cons_succ, List.eraseIdx_cons_zero] at s23
    clear s22
    have s24 := s23.pick 4
    simp only [List.getElem_cons_succ, List.getElem_cons_zero, List.eraseIdx_cons_succ, List.eraseIdx_cons_zero] at s24
    clear s23
    have hcb11 := (s24.pick 4).cells
    have hfb11 := (s24.pick 4).free
    have hcb3 := (s24.pick 8).cells
    have hfb3 := (s24.pick 8).free
    have Q := Lib.hid s24
    clear s24
    go_wp2_with fail
    refine (equ9_s k e a b c d id k e a b c d id ps ps ts ts (by omega) (by omega) true (by simp) Q.out).mono ?_
    rintro ee w11 ⟨rfl, s25⟩
    clear Q hcb11 hfb11 hcb3 hfb3
    have s26 := s25.pick 4
    simp only [List.getElem_cons_succ, List.getElem_cons_zero, List.eraseIdx_cons_succ, List.eraseIdx_cons_zero] at s26
    clear s25
    have s27 := s26.drop
    clear s26
    have s28 := s27.drop
    clear s27
    have s29 := s28.drop
    clear s28
    by_cases h2 : E2 = 0
    · subst h2
      have s30 := s29.pick 3
      simp only [List.getElem_cons_succ, List.getElem_cons_zero, List.eraseIdx_cons_succ, List.eraseIdx_cons_zero] at s30
      clear s29
      have s31 := s30.pick 3
      simp only [List.getElem_cons_succ, List.getElem_cons_zero, List.eraseIdx_cons_succ, List.eraseIdx_cons_zero] at s31
      clear s30
      have s32 := s31.pick 3
      simp only [List.getElem_cons_succ, List.getElem_cons_zero, List.eraseIdx_cons_succ, List.eraseIdx_cons_zero] at s32
      clear s31
      have s33 := s32.pick 3
      simp only [List.getElem_cons_succ, List.getElem_cons_zero, List.eraseIdx_cons_succ, List.eraseIdx_cons_zero] at s33
      clear s32
      go_upto_region 12 with fail
      obtain ⟨N, hN⟩ : ∃ N, N = min X.length Y.length := ⟨_, rfl⟩
      have hm1 : ∀ (inst : Decidable ((Go.Proofs.YtkhcdichdnbcmaaR.Ext.mkB Y).size < (Go.Proofs.YtkhcdichdnbcmaaR.Ext.mkB X).size)), @ite Int ((Go.Proofs.YtkhcdichdnbcmaaR.Ext.mkB Y).size < (Go.Proofs.YtkhcdichdnbcmaaR.Ext.mkB X).size) inst ((Go.Proofs.YtkhcdichdnbcmaaR.Ext.mkB Y).size : Int) ((Go.Proofs.YtkhcdichdnbcmaaR.Ext.mkB X).size : Int) = (N : Int) := by
        intro inst
        have hlx := mkB_size X
        have hly := mkB_size Y
        split <;> omega
      rw [hm1]
      clear hm1
      obtain ⟨bb, hbb⟩ : ∃ bb, decide ((⟨k, e, spOf a b c d ps ts, id⟩ : CM) = (⟨k', e', spOf a' b' c' d' ps' ts', id'⟩ : CM)) = bb := ⟨_, rfl⟩
      have hq := hEq trivial trivial N hN
      rw [hbb] at hq
      have hslX := slice_to X N (by omega)
      have hslY := slice_to Y N (by omega)
      have HBB := Lib.hid hbb
      clear hbb hEq
      have HN := Lib.hid hN
      clear hN
      generalize X.take N = XN at *
      generalize Y.take N = YN at *
      refine start_ (n := 11) (S := fun w' => w'.cell? ⟨b3, 0, none⟩ = some (.int .u8 k) ∧ w'.cell? ⟨b3, 1, none⟩ = some (.int .i64 e) ∧ w'.cell? ⟨b3, 2, none⟩ = some (.int .i64 a) ∧ w'.cell? ⟨b3, 3, none⟩ = some (.int .i64 b) ∧ w'.cell? ⟨b3, 4, none⟩ = some (.int .i64 c) ∧ w'.cell? ⟨b3, 5, none⟩ = some (.int .i64 d) ∧ w'.cell? ⟨b3, 6, none⟩ = some (.slice A1 n1 p1) ∧ w'.cell? ⟨b3, 7, none⟩ = some (.slice B1 m1 q1) ∧ w'.cell? ⟨b3, 8, none⟩ = some (.int .i64 id) ∧ w'.cell? ⟨b4, 0, none⟩ = some (.int .u8 k') ∧ w'.cell? ⟨b4, 1, none⟩ = some (.int .i64 e') ∧ w'.cell? ⟨b4, 2, none⟩ = some (.int .i64 a') ∧ w'.cell? ⟨b4, 3, none⟩ = some (.int .i64 b') ∧ w'.cell? ⟨b4, 4, none⟩ = some (.int .i64 c') ∧ w'.cell? ⟨b4, 5, none⟩ = some (.int .i64 d') ∧ w'.cell? ⟨b4, 6, none⟩ = some (.slice A2 n2 p2) ∧ w'.cell? ⟨b4, 7, none⟩ = some (.slice B2 m2 q2) ∧ w'.cell? ⟨b4, 8, none⟩ = some (.int .i64 id')) (ds := []) #[false, false, false, false, false, false, false, false, false, false, false] (by kernel_rfl) rfl rfl ⟨(s33.pick 5).cells 0, (s33.pick 5).cells 1, (s33.pick 5).cells 2, (s33.pick 5).cells 3, (s33.pick 5).cells 4, (s33.pick 5).cells 5, (s33.pick 5).cells 6, (s33.pick 5).cells 7, (s33.pick 5).cells 8, (s33.pick 4).cells 0, (s33.pick 4).cells 1, (s33.pick 4).cells 2, (s33.pick 4).cells 3, (s33.pick 4).cells 4, (s33.pick 4).cells 5, (s33.pick 4).cells 6, (s33.pick 4).cells 7, (s33.pick 4).cells 8⟩ (fun hHeld => ?_)
      have sd := s33.drew
      clear s33
      generalize w11.drew = wd at *
      refine pure_ (i := 0) (N := some 73) (v := ?_) (a' := ?_) #[true, false, false, false, false, false, false, false, false, false, false] rfl rfl (by kernel_rfl) (fun _ _ _ h => h) (Or.inl ⟨by rfl, ?_⟩) ?_ ?_
      rotate_left
      · intro w'
        go_simp
        with_reducible rfl
      rotate_left
      · simp only [Act.put, List.setIfInBounds_toArray, List.set_cons_zero, List.set_cons_succ, i64_w, i32_w]
        rfl
      refine pure_ (i := 1) (N := some 74) (v := ?_) (a' := ?_) #[true, true, false, false, false, false, false, false, false, false, false] rfl rfl (by kernel_rfl) (fun _ _ _ h => h) (Or.inl ⟨by rfl, ?_⟩) ?_ ?_
      rotate_left
      · intro w'
        go_simp
        with_reducible rfl
      rotate_left
      · simp only [Act.put, List.setIfInBounds_toArray, List.set_cons_zero, List.set_cons_succ, i64_w, i32_w]
        rfl
      refine pure_ (i := 2) (N := some 75) (v := (.string (Go.Proofs.YtkhcdichdnbcmaaR.Ext.mkB XN))) (a' := ?_) #[true, true, true, false, false, false, false, false, false, false, false] rfl rfl (by kernel_rfl) (fun _ _ _ h => h) (Or.inl ⟨by rfl, ?_⟩) ?_ ?_
      · intro w'
        go_simp
      rotate_left
      · simp only [Act.put, List.setIfInBounds_toArray, List.set_cons_zero, List.set_cons_succ, i64_w, i32_w]
        rfl
      refine pure_ (i := 3) (N := some 76) (v := ?_) (a' := ?_) #[true, true, true, true, false, false, false, false, false, false, false] rfl rfl (by kernel_rfl) (fun _ _ _ h => h) (Or.inl ⟨by rfl, ?_⟩) ?_ ?_
      rotate_left
      · intro w'
        go_simp
        with_reducible rfl
      rotate_left
      · simp only [Act.put, List.setIfInBounds_toArray, List.set_cons_zero, List.set_cons_succ, i64_w, i32_w]
        rfl
      refine pure_ (i := 4) (N := some 77) (v := ?_) (a' := ?_) #[true, true, true, true, true, false, false, false, false, false, false] rfl rfl (by kernel_rfl) (fun _ _ _ h => h) (Or.inl ⟨by rfl, ?_⟩) ?_ ?_
      rotate_left
      · intro w'
        go_simp
        with_reducible rfl
      rotate_left
      · simp only [Act.put, List.setIfInBounds_toArray, List.set_cons_zero, List.set_cons_succ, i64_w, i32_w]
        rfl
      refine pure_ (i := 5) (N := some 78) (v := (.string (Go.Proofs.YtkhcdichdnbcmaaR.Ext.mkB YN))) (a' := ?_) #[true, true, true, true, true, true, false, false, false, false, false] rfl rfl (by kernel_rfl) (fun _ _ _ h => h) (Or.inl ⟨by rfl, ?_⟩) ?_ ?_
      · intro w'
        go_simp
      rotate_left
      · simp only [Act.put, List.setIfInBounds_toArray, List.set_cons_zero, List.set_cons_succ, i64_w, i32_w]
        rfl
      refine pure_ (i := 6) (N := some 79) (v := (.bool bb)) (a' := ?_) #[true, true, true, true, true, true, true, false, false, false, false] rfl rfl (by kernel_rfl) (fun _ _ _ h => h) (Or.inl ⟨by rfl, ?_⟩) ?_ ?_
      · intro w'
        go_simp
      rotate_left
      · simp only [Act.put, List.setIfInBounds_toArray, List.set_cons_zero, List.set_cons_succ, i64_w, i32_w]
        rfl
      refine take_ (i := 7) (N := some 80) (v := ?_) (a' := ?_) #[true, true, true, true, true, true, true, true, false, false, false] rfl rfl (by kernel_rfl) (fun _ _ _ h => h) (Or.inl ⟨by rfl, ?_⟩) hHeld ?_ ?_
      rotate_left
      · rintro w' ⟨s0, s1, s2, s3, s4, s5, s6, s7, s8, s9, s10, s11, s12, s13, s14, s15, s16, s17⟩
        go_simp
        with_reducible rfl
      rotate_left
      · simp only [Act.put, List.setIfInBounds_toArray, List.set_cons_zero, List.set_cons_succ, i64_w, i32_w]
        rfl
      refine take_ (i := 8) (N := some 81) (v := ?_) (a' := ?_) #[true, true, true, true, true, true, true, true, true, false, false] rfl rfl (by kernel_rfl) (fun _ _ _ h => h) (Or.inl ⟨by rfl, ?_⟩) hHeld ?_ ?_
      rotate_left
      · rintro w' ⟨s0, s1, s2, s3, s4, s5, s6, s7, s8, s9, s10, s11, s12, s13, s14, s15, s16, s17⟩
        go_simp
        with_reducible rfl
      rotate_left
      · simp only [Act.put, List.setIfInBounds_toArray, List.set_cons_zero, List.set_cons_succ, i64_w, i32_w]
        rfl
      refine one_ (i := 9) (N := some 82) #[true, true, true, true, true, true, true, true, true, true, false] rfl rfl (by kernel_rfl) (by decide) (fun K hK => ?_)
      refine goes_ Try.func19 (by kernel_rfl) rfl #[.agg #[.int .u8 k, .int .i64 e, .int .i64 a, .int .i64 b, .int .i64 c, .int .i64 d, .slice A1 n1 p1, .slice B1 m1 q1, .int .i64 id], .agg #[.int .u8 k', .int .i64 e', .int .i64 a', .int .i64 b', .int .i64 c', .int .i64 d', .slice A2 n2 p2, .slice B2 m2 q2, .int .i64 id']] (by rfl) rfl rfl (by (try simp only [List.map_toArray, List.map_cons, List.map_nil]); first | done | rfl) ?_
      with_reducible refine (equ9_s k e a b c d id k' e' a' b' c' d' id' ps ps' ts ts' (by omega) (by omega) bb HBB.out sd).mono ?_
      rintro ee we ⟨rfl, se⟩
      refine ⟨_, rfl, ?_⟩
      refine hK.out _ _ ⟨(se.pick 5).cells 0, (se.pick 5).cells 1, (se.pick 5).cells 2, (se.pick 5).cells 3, (se.pick 5).cells 4, (se.pick 5).cells 5, (se.pick 5).cells 6, (se.pick 5).cells 7, (se.pick 5).cells 8, (se.pick 4).cells 0, (se.pick 4).cells 1, (se.pick 4).cells 2, (se.pick 4).cells 3, (se.pick 4).cells 4, (se.pick 4).cells 5, (se.pick 4).cells 6, (se.pick 4).cells 7, (se.pick 4).cells 8⟩ (fun hHeld => ?_)
      clear hK K sd
      refine norm_ (a' := ?_) ?_ ?_
      rotate_left
      · show Act.put _ (some 82) _ = _
        simp only [Act.put, List.setIfInBounds_toArray, List.set_cons_zero, List.set_cons_succ, i64_w, i32_w]
        rfl
      refine pure_ (i := 10) (N := some 83) (v := (.bool false)) (a' := ?_) #[true, true, true, true, true, true, true, true, true, true, true] rfl rfl (by kernel_rfl) (fun _ _ _ h => h) (Or.inl ⟨by rfl, ?_⟩) ?_ ?_
      · intro w'
        go_simp
      rotate_left
      · simp only [Act.put, List.setIfInBounds_toArray, List.set_cons_zero, List.set_cons_succ, i64_w, i32_w]
        rfl
      refine done_ (by kernel_rfl) ?_
      clear hHeld hq hslX hslY HBB HN
      have Q := Lib.hid se
      clear se
      go_wp2_with fail
      refine (HS.out _ _ Q.out).mono ?_
      rintro ee w12 ⟨A7, B7, n7, m7, p7, q7, rfl, s34⟩
      clear Q
      have s35 := s34.alloc #[.int .u8 k2, .int .i64 e2, .int .i64 a2, .int .i64 b2, .int .i64 c2, .int .i64 d2, .slice A7 n7 p7, .slice B7 m7 q7, .int .i64 id2] tCm
      clear s34
      have Q := Lib.hid s35
      clear s35
      have hcb14 := Q.out.cells
      go_wp2_with fail
      have z1 := Q.out.pick 1
      simp only [List.getElem_cons_succ, List.getElem_cons_zero, List.eraseIdx_cons_succ, List.eraseIdx_cons_zero] at z1
      have z2 := z1.pick 2
      simp only [List.getElem_cons_succ, List.getElem_cons_zero, List.eraseIdx_cons_succ, List.eraseIdx_cons_zero] at z2
      have z3 := z2.pick 1
      simp only [List.getElem_cons_succ, List.getElem_cons_zero, List.eraseIdx_cons_succ, List.eraseIdx_cons_zero] at z3
      clear z1 z2
      refine (enc9_s k2 e2 a2 b2 c2 d2 id2 ps2 ts2 z3 S 0 HT.out.1 HT.out.2).mono ?_
      rintro ee wa ⟨rfl, y1⟩
      clear z3 Q hcb14
      have hcq := (y1.pick 2).cells
      have Q := Lib.hid y1
      clear y1
      go_wp2_with fail
      refine (chk9_s k2 e2 a2 b2 c2 d2 id2 ps2 ts2 Q.out 0 HT.out.2).mono ?_
      rintro ee wb ⟨rfl, y2⟩
      clear Q hcq
      have Q := Lib.hid y2
      clear y2
      go_wp2_with fail
      refine (awake18 Q.out).mono ?_
      rintro ee wc ⟨rfl, y3⟩
      clear Q
      have HB := Lib.hid y3.bel
      clear y3
      go_wp2
      go_returns
      exact ⟨rfl, HB.out⟩
    · have h2b : (E2 == 0) = false := beq_eq_false_iff_ne.mpr h2
      clear h2 hEq
      have Q := Lib.hid s29
      clear s29
      go_wp2_with fail
      refine (HS.out _ _ Q.out).mono ?_
      rintro ee w12 ⟨A7, B7, n7, m7, p7, q7, rfl, s30⟩
      clear Q
      have s31 := s30.alloc #[.int .u8 k2, .int .i64 e2, .int .i64 a2, .int .i64 b2, .int .i64 c2, .int .i64 d2, .slice A7 n7 p7, .slice B7 m7 q7, .int .i64 id2] tCm
      clear s30
      have Q := Lib.hid s31
      clear s31
      have hcb14 := Q.out.cells
      go_wp2_with fail
      have z1 := Q.out.pick 1
      simp only [List.getElem_cons_succ, List.getElem_cons_zero, List.eraseIdx_cons_succ, List.eraseIdx_cons_zero] at z1
      have z2 := z1.pick 2
      simp only [List.getElem_cons_succ, List.getElem_cons_zero, List.eraseIdx_cons_succ, List.eraseIdx_cons_zero] at z2
      have z3 := z2.pick 1
      simp only [List.getElem_cons_succ, List.getElem_cons_zero, List.eraseIdx_cons_succ, List.eraseIdx_cons_zero] at z3
      clear z1 z2
      refine (enc9_s k2 e2 a2 b2 c2 d2 id2 ps2 ts2 z3 S 0 HT.out.1 HT.out.2).mono ?_
      rintro ee wa ⟨rfl, y1⟩
      clear z3 Q hcb14
      have hcq := (y1.pick 2).cells
      have Q := Lib.hid y1
      clear y1
      go_wp2_with fail
      refine (chk9_s k2 e2 a2 b2 c2 d2 id2 ps2 ts2 Q.out 0 HT.out.2).mono ?_
      rintro ee wb ⟨rfl, y2⟩
      clear Q hcq
      have Q := Lib.hid y2
      clear y2
      go_wp2_with fail
      refine (awake18 Q.out).mono ?_
      rintro ee wc ⟨rfl, y3⟩
      clear Q
      have HB := Lib.hid y3.bel
      clear y3
      go_wp2
      go_returns
      exact ⟨rfl, HB.out⟩
  · have h1b : (E1 == 0) = false := beq_eq_false_iff_ne.mpr h1
    clear h1 hEq hDX
    have Q := Lib.hid s18
    clear s18
    go_wp2_with fail
    refine (HS.out _ _ Q.out).mono ?_
    rintro ee w10 ⟨A7, B7, n7, m7, p7, q7, rfl, s19⟩
    clear Q
    have s20 := s19.alloc #[.int .u8 k2, .int .i64 e2, .int .i64 a2, .int .i64 b2, .int .i64 c2, .int .i64 d2, .slice A7 n7 p7, .slice B7 m7 q7, .int .i64 id2] tCm
    clear s19
    have Q := Lib.hid s20
    clear s20
    have hcb14 := Q.out.cells
    go_wp2_with fail
    have z1 := Q.out.pick 1
    simp only [List.getElem_cons_succ, List.getElem_cons_zero, List.eraseIdx_cons_succ, List.eraseIdx_cons_zero] at z1
    have z2 := z1.pick 2
    simp only [List.getElem_cons_succ, List.getElem_cons_zero, List.eraseIdx_cons_succ, List.eraseIdx_cons_zero] at z2
    have z3 := z2.pick 1
    simp only [List.getElem_cons_succ, List.getElem_cons_zero, List.eraseIdx_cons_succ, List.eraseIdx_cons_zero] at z3
    clear z1 z2
    refine (enc9_s k2 e2 a2 b2 c2 d2 id2 ps2 ts2 z3 S 0 HT.out.1 HT.out.2).mono ?_
    rintro ee wa ⟨rfl, y1⟩
    clear z3 Q hcb14
    have hcq := (y1.pick 2).cells
    have Q := Lib.hid y1
    clear y1
    go_wp2_with fail
    refine (chk9_s k2 e2 a2 b2 c2 d2 id2 ps2 ts2 Q.out 0 HT.out.2).mono ?_
    rintro ee wb ⟨rfl, y2⟩
    clear Q hcq
    have Q := Lib.hid y2
    clear y2
    go_wp2_with fail
    refine (awake18 Q.out).mono ?_
    rintro ee wc ⟨rfl, y3⟩
    clear Q
    have HB := Lib.hid y3.bel
    clear y3
    go_wp2
    go_returns
    exact ⟨rfl, HB.out⟩
end Go.Proofs.YtkhcdichdnbcmaaR
end

section
/- CmdBack: its plain law and its walk. -/
namespace Go.Proofs.YtkhcdichdnbcmaaR
open Go.RowKit Go.Proofs.YtkhcdichdnbcmaaR Go.Proofs.YtkhcdichdnbcmaaR.Ext Go.Proofs.YtkhcdichdnbcmaaR.C Go.Proofs.YtkhcdichdnbcmaaR.Sp Go.Proofs.YtkhcdichdnbcmaaRW.PrintWords Go.Proofs.YtkhcdichdnbcmaaRW.PrintLast
set_option linter.unusedVariables false
set_option linter.unusedSimpArgs false
theorem fwd_map (l : List TX) : (l.map toTS).map ofTS = l := by
  rw [List.map_map]
  have : (ofTS ∘ toTS) = id := by funext x; rfl
  rw [this, List.map_id]
theorem encCR_ok {c : CM} (h : cmdE c = 0) : encCR c = encC c := by unfold encCR; rw [if_pos h]
theorem dec_own (k e a b c d id : Int) (ps : List Int) (ts : List TX) (h : cmdE ⟨k, e, spOf a b c d ps ts, id⟩ = 0) (w0 W : World) (M : List HP) (s : St w0 W M) :
    Calls Try.prog 20 #[.string (Go.Proofs.YtkhcdichdnbcmaaR.Ext.mkB (encCR ⟨k, e, spOf a b c d ps ts, id⟩))] W fun ee w' => ∃ A B n m p q, ee = .returned (.tuple #[.agg #[.int .u8 k, .int .i64 e, .int .i64 a, .int .i64 b, .int .i64 c, .int .i64 d, .slice A n p, .slice B m q, .int .i64 id], .int .i64 0]) ∧ St w0 w' (RI (.slice A n p) ps :: RT (.slice B m q) ts :: M) := by
  have ho := (okC_iff _).2 h
  have hx : decCR (encCR ⟨k, e, spOf a b c d ps ts, id⟩) = (⟨k, e, ⟨a, b, c, d, ps, ts.map toTS⟩, id⟩, 0) := by
    rw [encCR_ok h]
    exact (decCR_codec _ _).2 ⟨by have := encC_length ho; omega, ho, rfl⟩
  have q := dec9c _ _ _ _ _ _ _ _ _ _ _ hx s
  rw [fwd_map] at q
  exact q
theorem eq_heads {A B : CM} (h1 : cmdE A = 0) (h2 : cmdE B = 0) (N : Nat) (hN : N = min (encCR A).length (encCR B).length) :
    ((Go.Proofs.YtkhcdichdnbcmaaR.Ext.mkB ((encCR A).take N)).toList == (Go.Proofs.YtkhcdichdnbcmaaR.Ext.mkB ((encCR B).take N)).toList) = decide (A = B) := by
  rw [toList_mkB, toList_mkB]
  rw [encCR_ok h1, encCR_ok h2] at hN ⊢
  by_cases h : A = B
  · subst h
    simp
  · rw [decide_eq_false h]
    exact beq_eq_false_iff_ne.mpr (fun q => h (decC_codec.head ((okC_iff _).2 h1) ((okC_iff _).2 h2) hN q))
set_option maxHeartbeats 1000000 in
theorem back_all (k e a b c d id k' e' a' b' c' d' id' : Int) (A B A' B' : Option Addr) (n m p q n' m' p' q' : Nat) (ps ps' : List Int) (ts ts' : List TX) (t : List UInt8) (w : World)
    (hF1 : ∀ L, FewOf w L a b c d A B n m p q ps ts) (hF2 : ∀ L, FewOf w L a' b' c' d' A' B' n' m' p' q' ps' ts') (hps : ps.length ≤ 20) (hts : ts.length ≤ 10) (hps' : ps'.length ≤ 20) (hts' : ts'.length ≤ 10) :
    Calls Try.prog 7 #[.agg #[.int .u8 k, .int .i64 e, .int .i64 a, .int .i64 b, .int .i64 c, .int .i64 d, .slice A n p, .slice B m q, .int .i64 id], .agg #[.int .u8 k', .int .i64 e', .int .i64 a', .int .i64 b', .int .i64 c', .int .i64 d', .slice A' n' p', .slice B' m' q', .int .i64 id'], .string (Go.Proofs.YtkhcdichdnbcmaaR.Ext.mkB t)] w fun ee w' => ee = .returned (.bool true) ∧ Below w.heap.size w w' := by
  have hD := fun h => dec_own k e a b c d id ps ts h w
  have hE := fun h1 h2 => eq_heads (A := ⟨k, e, spOf a b c d ps ts, id⟩) (B := ⟨k', e', spOf a' b' c' d' ps' ts', id'⟩) h1 h2
  cases hx : decCR (t.take (min t.length 1100)) with
  | mk x er =>
    by_cases h0 : er = 0
    · subst h0
      obtain ⟨hl, ho, he⟩ := (decCR_codec _ _).1 hx
      have hc := (okC_iff _).1 ho
      have hr := encCR_ok hc
      rw [he] at hr
      obtain ⟨k2, e2, ⟨a2, b2, c2, d2, ps2, tx2⟩, id2⟩ := x
      have hs : spOf a2 b2 c2 d2 ps2 (tx2.map ofTS) = ⟨a2, b2, c2, d2, ps2, tx2⟩ := spOf_of ⟨a2, b2, c2, d2, ps2, tx2⟩
      refine back_0 k e a b c d id k' e' a' b' c' d' id' A B A' B' n m p q n' m' p' q' ps ps' ts ts' t _ k2 e2 a2 b2 c2 d2 id2 ps2 (tx2.map ofTS) _ _ _ _ w hF1 hF2 rfl hps hts hps' hts' rfl rfl rfl rfl (fun h => hD h) (fun h1 h2 => hE h1 h2) (Lib.hid (fun W M s => dec9c _ _ _ _ _ _ _ _ _ _ _ hx s)) (Lib.hid ?_)
      rw [hs]
      exact ⟨hr, hc⟩
    · have hz := decCR_err (t.take (min t.length 1100)) (by rw [hx]; exact h0)
      rw [hx] at hz
      obtain ⟨hz1, hz2⟩ := hz
      simp only at hz1 hz2
      subst hz1
      by_cases hl : 1024 < (t.take (min t.length 1100)).length
      · rw [if_pos hl] at hz2
        subst hz2
        exact back_5 k e a b c d id k' e' a' b' c' d' id' A B A' B' n m p q n' m' p' q' ps ps' ts ts' t _ _ _ _ _ w hF1 hF2 rfl hps hts hps' hts' rfl rfl rfl rfl (fun h => hD h) (fun h1 h2 => hE h1 h2) (Lib.hid (fun W M s => dec9c _ 0 0 0 0 0 0 [] [] 0 5 hx s)) hl
      · rw [if_neg hl] at hz2
        subst hz2
        exact back_4 k e a b c d id k' e' a' b' c' d' id' A B A' B' n m p q n' m' p' q' ps ps' ts ts' t _ _ _ _ _ w hF1 hF2 rfl hps hts hps' hts' rfl rfl rfl rfl (fun h => hD h) (fun h1 h2 => hE h1 h2) (Lib.hid (fun W M s => dec9c _ 0 0 0 0 0 0 [] [] 0 4 hx s)) (by omega)
theorem walk_CmdBack (W : World) (k e a b c d : Int) (A4 : Option Addr) (c4 : Nat) (l4 : List Int) (A5 : Option Addr) (c5 : Nat) (l5 : List E90) (id : Int) (h0 : (Lit.int .u8 k).wf = true) (h1 : (Lit.int .i64 e).wf = true) (h2 : (Lit.int .i64 a).wf = true) (h3 : (Lit.int .i64 b).wf = true) (h4 : (Lit.int .i64 c).wf = true) (h5 : (Lit.int .i64 d).wf = true) (h6 : SL24 W A4 c4 l4) (h7 : SL25 W A5 c5 l5) (h8 : (Lit.int .i64 id).wf = true)
    (k' e' a' b' c' d' : Int) (A4' : Option Addr) (c4' : Nat) (l4' : List Int) (A5' : Option Addr) (c5' : Nat) (l5' : List E90) (id' : Int) (h0' : (Lit.int .u8 k').wf = true) (h1' : (Lit.int .i64 e').wf = true) (h2' : (Lit.int .i64 a').wf = true) (h3' : (Lit.int .i64 b').wf = true) (h4' : (Lit.int .i64 c').wf = true) (h5' : (Lit.int .i64 d').wf = true) (h6' : SL24 W A4' c4' l4') (h7' : SL25 W A5' c5' l5') (h8' : (Lit.int .i64 id').wf = true) (s : ByteArray) (hs : s.size ≤ 140737488351232) :
    Calls Try.prog 7 #[.agg #[.int .u8 k, .int .i64 e, .int .i64 a, .int .i64 b, .int .i64 c, .int .i64 d, .slice A4 l4.length c4, .slice A5 l5.length c5, .int .i64 id], .agg #[.int .u8 k', .int .i64 e', .int .i64 a', .int .i64 b', .int .i64 c', .int .i64 d', .slice A4' l4'.length c4', .slice A5' l5'.length c5', .int .i64 id'], .string s] W fun e w' => e = .returned (.bool true) ∧ Below W.heap.size W w' := by
  have q1 := readsT h7
  have q2 := readsT h7'
  obtain ⟨t, rfl⟩ : ∃ t, s = Go.Proofs.YtkhcdichdnbcmaaR.Ext.mkB t := ⟨s.data.toList, (mkB_data s).symm⟩
  have hl : ∀ l : List Int, (l.take 20).length ≤ 20 := fun l => by rw [List.length_take]; omega
  have hm : ∀ l : List TX, (l.take 10).length ≤ 10 := fun l => by rw [List.length_take]; omega
  exact back_all k e a b c d id k' e' a' b' c' d' id' A4 A5 A4' A5' _ _ _ _ _ _ _ _ _ _ _ _ t W
    (fun L => few_a (w0 := W) (w := W) a b c d l4 (l5.map toE) (readsI h6).1 rfl (readsI h6).2 q1.1 (by rw [List.length_map]) (by have := q1.2; rw [List.length_map] at this; exact this))
    (fun L => few_a (w0 := W) (w := W) a' b' c' d' l4' (l5'.map toE) (readsI h6').1 rfl (readsI h6').2 q2.1 (by rw [List.length_map]) (by have := q2.2; rw [List.length_map] at this; exact this)) (hl _) (hm _) (hl _) (hm _)
end Go.Proofs.YtkhcdichdnbcmaaR
end

section
/- The row of the law CmdBack, out of its walk. By a program of this session (wip/rows.py). -/
namespace Go.Proofs.YtkhcdichdnbcmaaR.cmdBack
open Go.ChangeShapes Go.WideShapes Go.ChangeAt Go.RowKit
open Go.ChangeMaps (open_string shut_string)
set_option linter.unusedVariables false
theorem own : ownKnob Try.prog.godebug = none := by kernel_rfl
theorem laidOut : laidOutB Try.prog = true := by kernel_rfl
set_option maxRecDepth 100000 in
theorem lifted (os : Os) (started : os.Started) (H : Type) (enc : TypeId × Value → H) :
    ReturnsInHanded {} Try.checked os 7 .any (Rows.cmdBackSpec.pre6 enc Try.prog Try.f7 Rows.cmdBackRow.domain false) (Rows.cmdBackSpec.post enc Try.prog Try.f7 false true false false) := by
  refine returnsInHanded_of_change_sized (C := Try.checked) own started (by kernel_rfl) Try.func7
    (ChangeSpec.witness6 (enc := enc) (C := Try.checked) false ⟨#[], #[.agg #[.int .u8 0, .int .i64 0, .int .i64 0, .int .i64 0, .int .i64 0, .int .i64 0, .slice none 0 0, .slice none 0 0, .int .i64 0], .agg #[.int .u8 0, .int .i64 0, .int .i64 0, .int .i64 0, .int .i64 0, .int .i64 0, .slice none 0 0, .slice none 0 0, .int .i64 0], .string ByteArray.empty], []⟩ 8 (by kernel_rfl) (by kernel_rfl) (by kernel_rfl) (by kernel_rfl)) ?_
  intro W base args ds gs before hval0 hW hcnd hsz0 _
  have hsz : (DataW.weightsEach Try.prog (Try.f7.params.toList ++ Rows.cmdBackSpec.plain.varTypes Try.prog) (ds ++ gs)).all (· ≤ reachBytes) = true := hsz0
  have hval : ∀ (j : Nat) t v, Try.f7.params[j]? = some t → args[j]? = some v → Value.okWide Try.prog W .any base t v := hval0
  have hW' := hW
  obtain ⟨p, q, hA0, hV, rfl, hfz, hnd⟩ := hW
  have hA : DataW.TrodAll enc Try.prog W 0 (fun _ => true) true Try.f7.params.toList args.toList ds p := hA0
  rw [Try.params7] at hA hval hsz
  obtain ⟨v0, vs0, d0, ds0, p0, q0, hargs, rfl, rfl, h0, r0⟩ := trodAll_cons hA
  obtain ⟨v1, vs1, d1, ds1, p1, q1, rfl, rfl, rfl, h1, r1⟩ := trodAll_cons r0
  obtain ⟨v2, vs2, d2, ds2, p2, q2, rfl, rfl, rfl, h2, r2⟩ := trodAll_cons r1
  obtain ⟨rfl, rfl, rfl⟩ := trodAll_nil r2
  obtain rfl : args = #[v0, v1, v2] := by cases args; simp_all
  obtain ⟨rfl, rfl⟩ := trodVars_none hV
  have k0 := h0
  have lt0 : ∀ x ∈ p0, x.block < W.heap.size := by obtain ⟨m, hm⟩ := k0; exact DataW.trod_lt m _ _ _ hm
  obtain ⟨fu0, hf0⟩ := h0
  obtain ⟨a0_0, a0_1, a0_2, a0_3, a0_4, a0_5, a0_6_A, a0_6_c, a0_6_l, a0_7_A, a0_7_c, a0_7_l, a0_8, e0, a0_0_h, a0_1_h, a0_2_h, a0_3_h, a0_4_h, a0_5_h, a0_6_h, a0_7_h, a0_8_h⟩ := op_29 hf0
  obtain rfl := agg_of e0 (by simp)
  have k1 := h1
  have lt1 : ∀ x ∈ p1, x.block < W.heap.size := by obtain ⟨m, hm⟩ := k1; exact DataW.trod_lt m _ _ _ hm
  obtain ⟨fu1, hf1⟩ := h1
  obtain ⟨a1_0, a1_1, a1_2, a1_3, a1_4, a1_5, a1_6_A, a1_6_c, a1_6_l, a1_7_A, a1_7_c, a1_7_l, a1_8, e1, a1_0_h, a1_1_h, a1_2_h, a1_3_h, a1_4_h, a1_5_h, a1_6_h, a1_7_h, a1_8_h⟩ := op_29 hf1
  obtain rfl := agg_of e1 (by simp)
  obtain ⟨a2, rfl, rfl, rfl, y2⟩ := open_string Try.underlying9 (hval 2 9 v2 rfl rfl) h2
  have w2 : a2.size ≤ 140737488351232 := by
    have z := sized_string hsz (j := 2) (t := 9) rfl rfl
    rw [Array.length_toList] at z
    exact z
  refine (walk_CmdBack W a0_0 a0_1 a0_2 a0_3 a0_4 a0_5 a0_6_A a0_6_c a0_6_l a0_7_A a0_7_c a0_7_l a0_8 a0_0_h a0_1_h a0_2_h a0_3_h a0_4_h a0_5_h a0_6_h a0_7_h a0_8_h a1_0 a1_1 a1_2 a1_3 a1_4 a1_5 a1_6_A a1_6_c a1_6_l a1_7_A a1_7_c a1_7_l a1_8 a1_0_h a1_1_h a1_2_h a1_3_h a1_4_h a1_5_h a1_6_h a1_7_h a1_8_h a2 w2).mono fun e W' ⟨he, bel⟩ => ?_
  subst he
  exact ⟨_, rfl, _, _, _, [], _, [], hW', trodAll_mk1 (shut_bool Try.underlying4 _), (trodAll_cons_mk (Below.trod laidOut (by kernel_rfl) (of_decide_eq_true (by kernel_rfl)) k0 bel lt0) (trodAll_cons_mk (Below.trod laidOut (by kernel_rfl) (of_decide_eq_true (by kernel_rfl)) k1 bel lt1) (trodAll_cons_mk (shut_string Try.underlying9 y2) trodAll_mk0))), rfl, bel.frame _, fun h => by cases h⟩
theorem over : Rows.cmdBackRow.holds Try.pinned (OpenSpec.ofChange Rows.cmdBackSpec) :=
  OpenClaim.holds_of_wide 7 Try.f7 rfl rfl rfl rfl rfl rfl rfl ⟨rfl, rfl, rfl, rfl, rfl⟩ rfl rfl rfl rfl rfl (by kernel_rfl) Try.func7 (by kernel_rfl)
    (of_decide_eq_true (by kernel_rfl)) (by unfold Func.isWrapper; first | (rw [if_pos (by decide +kernel)]; kernel_rfl) | (rw [if_neg (by decide +kernel)]; exact ⟨rfl, rfl⟩))
    (fun os started H enc _ => lifted os started H enc)
#print axioms over
end Go.Proofs.YtkhcdichdnbcmaaR.cmdBack
namespace Go.Proofs.YtkhcdichdnbcmaaR
/-- The row, under a short name, for the claim. -/
theorem cmdBack_holds : Rows.CmdBackSaid := cmdBack.over
end Go.Proofs.YtkhcdichdnbcmaaR
end
