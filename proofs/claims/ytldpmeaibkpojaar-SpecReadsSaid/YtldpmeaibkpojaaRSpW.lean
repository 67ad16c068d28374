/- A store of a specification's cells, at the operation. -/
import Derived.Test.YtldpmeaibkpojaaRBase
import Derived.Test.YtldpmeaibkpojaaRProg
namespace Go.Proofs.YtldpmeaibkpojaaR
open Go.RowKit
set_option linter.unusedSimpArgs false
theorem wpList_storeS {P : Program} {ops : Array Oper} {rest : List Oper} {o : Oper} {a : Act} {Q : Exit → Act → World → Prop} (w : World) (hg : o.guard = none) (x v : Operand) (t : TypeId) (hop : o.op = Op.store t x v) (b : Nat) (i0 i1 i2 i3 : Int) (A4 : Option Addr) (n4 c4 : Nat) (A5 : Option Addr) (n5 c5 : Nat) {cs : Array Value} (hcs : cs.size = 6) (hsz : ∀ W : World, (sizeOf t).run P W = .ok 6 W)
    (hx : a.eval x = .pointer (some ⟨b, 0, none⟩)) (hv : a.eval v = .agg #[.int .i64 i0, .int .i64 i1, .int .i64 i2, .int .i64 i3, .slice A4 n4 c4, .slice A5 n5 c5]) (hb : w.heap[b]? = some (.cells cs t (0, 0)))
    (hK : wpList P ops Q rest (a.put o.dst undef) ((((((w.setCell ⟨b, 0, none⟩ (.int .i64 i0)).setCell ⟨b, 1, none⟩ (.int .i64 i1)).setCell ⟨b, 2, none⟩ (.int .i64 i2)).setCell ⟨b, 3, none⟩ (.int .i64 i3)).setCell ⟨b, 4, none⟩ (.slice A4 n4 c4)).setCell ⟨b, 5, none⟩ (.slice A5 n5 c5))) :
    wpList P ops Q (o :: rest) a w := by
  have hc := vcell hb
  have hf := vfree hb
  have c : ∀ j, j < 6 → ∃ u, cs[j]? = some u := fun j hj => ⟨cs[j], Array.getElem?_eq_getElem (by omega)⟩
  obtain ⟨u0, e0⟩ := c 0 (by omega)
  obtain ⟨u1, e1⟩ := c 1 (by omega)
  obtain ⟨u2, e2⟩ := c 2 (by omega)
  obtain ⟨u3, e3⟩ := c 3 (by omega)
  obtain ⟨u4, e4⟩ := c 4 (by omega)
  obtain ⟨u5, e5⟩ := c 5 (by omega)
  clear hb c hcs
  refine wpList_plain hg fun K' hK' => ?_
  unfold Oper.wp
  have hs : (storeCells ⟨b, 0, none⟩ [.int .i64 i0, .int .i64 i1, .int .i64 i2, .int .i64 i3, .slice A4 n4 c4, .slice A5 n5 c5]).run P w = .ok () ((((((w.setCell ⟨b, 0, none⟩ (.int .i64 i0)).setCell ⟨b, 1, none⟩ (.int .i64 i1)).setCell ⟨b, 2, none⟩ (.int .i64 i2)).setCell ⟨b, 3, none⟩ (.int .i64 i3)).setCell ⟨b, 4, none⟩ (.slice A4 n4 c4)).setCell ⟨b, 5, none⟩ (.slice A5 n5 c5)) := by
    simp [go_sem, hc, hf, e0, e1, e2, e3, e4, e5]
  have hop' : (execOp a.eval o).run P w = Result.ok Next.skip ((((((w.setCell ⟨b, 0, none⟩ (.int .i64 i0)).setCell ⟨b, 1, none⟩ (.int .i64 i1)).setCell ⟨b, 2, none⟩ (.int .i64 i2)).setCell ⟨b, 3, none⟩ (.int .i64 i3)).setCell ⟨b, 4, none⟩ (.slice A4 n4 c4)).setCell ⟨b, 5, none⟩ (.slice A5 n5 c5)) := by
    simp [execOp, hop, hx, hv, hsz, Result.andThen]
    simp [Instr.storeAt, go_sem, hsz, hc, hf, e0, e1, e2, e3, e4, e5, Value.cells, Result.andThen]
  show Oper.upon P o a K' Q ((execOp a.eval o).run P w)
  rw [hop']
  simp only [Oper.upon]
  exact hK' _ _ hK
theorem sizeS (W : World) : (sizeOf 27).run Try.prog W = .ok 6 W := by kernel_rfl
end Go.Proofs.YtldpmeaibkpojaaR
