/-
  No cell of these rows narrows 'for every input' (looked for: loops, veiled, ifaces, maps, wideKeys, modest, calm, conditions, laid).
  DERIVED. THE GIVEN ROWS OF THIS SEAT. 12 by the template 'for every input the law returns true; each argument reads behind the call as it read before'; 0 by the template 'total and deterministic' (their statements: YtipbgeobgppagaaTotals.lean).
  GIVEN WITH THE SEED: the statements are not yours to turn. If you find one false, say at which input.
  Laid BY PROGRAM, IN A SANDBOX (cutbox-rows.mjs): the forced cells as the released guide's own fill.sh prints them over the translation cddf56743a8b2204… (all of the seat's roots in one cut). By AI agents, Wed Nov 11 2026. No macro, syntax, notation, axiom, sorry.
-/
import Derived.Test.YtipbgeobgppagaaChecked
import GoSem.Claim
import GoSem.ClaimJoined
import GoSem.ClaimMapViews
import Derived.JoinedTies
import Derived.KernelRfl
namespace Go.Proofs.Ytipbgeobgppagaa
/- THE CELL 'sum', in the pinned program and in every row, IS THE sha256 OF THE DUMP (.gsa) THAT YtipbgeobgppagaaProg.lean LOADS. Nothing in Lean hashes anything: it is a label: what it is worth is what the hold of that sum in a sandbox is worth. -/
noncomputable def Try.pinned : Pinned := { name := "ytipbgeobgppagaa", sum := "cddf56743a8b22042705fb6b160334c3f1a18ffebc91b85f8b6a811ad6cf314e", checked := Try.checked }
namespace Rows
def none {H : Type} : Left H := { results := [], args := [] }

/-- 'sacristanlaw12.WindowMatches': WHATEVER THE INPUT: true; the input reads as it did. -/
def windowMatchesSpec : ChangeSpec := { name := "windowMatches", fn := fun _ => fun
  | [d1, d2, d3, d4] => { results := [.lit (.bool true)], args := [d1, d2, d3, d4] }
  | _ => none }
def windowMatchesRow : OpenClaim := { program := "ytipbgeobgppagaa", sum := "cddf56743a8b22042705fb6b160334c3f1a18ffebc91b85f8b6a811ad6cf314e", func := "sacristan/sacristanlaw12.WindowMatches", spec := "windowMatches", apart := false }
def WindowMatchesSaid : Prop := windowMatchesRow.holds Try.pinned (OpenSpec.ofChange windowMatchesSpec)

/-- ITS FALSE NEIGHBOUR: 'it returns false'. Refute it at one input. -/
def windowMatchesWrong : ChangeSpec := { name := "windowMatches", fn := fun _ => fun
  | [d1, d2, d3, d4] => { results := [.lit (.bool false)], args := [d1, d2, d3, d4] }
  | _ => none }
def WindowMatchesWrongFalsely : Prop := windowMatchesRow.holds Try.pinned (OpenSpec.ofChange windowMatchesWrong)

/-- 'sacristanlaw12.WindowExamples': WHATEVER THE INPUT: true; the input reads as it did. -/
def windowExamplesSpec : ChangeSpec := { name := "windowExamples", fn := fun _ => fun
  | [] => { results := [.lit (.bool true)], args := [] }
  | _ => none }
def windowExamplesRow : OpenClaim := { program := "ytipbgeobgppagaa", sum := "cddf56743a8b22042705fb6b160334c3f1a18ffebc91b85f8b6a811ad6cf314e", func := "sacristan/sacristanlaw12.WindowExamples", spec := "windowExamples", apart := false }
def WindowExamplesSaid : Prop := windowExamplesRow.holds Try.pinned (OpenSpec.ofChange windowExamplesSpec)

/-- ITS FALSE NEIGHBOUR: 'it returns false'. Refute it at one input. -/
def windowExamplesWrong : ChangeSpec := { name := "windowExamples", fn := fun _ => fun
  | [] => { results := [.lit (.bool false)], args := [] }
  | _ => none }
def WindowExamplesWrongFalsely : Prop := windowExamplesRow.holds Try.pinned (OpenSpec.ofChange windowExamplesWrong)

/-- 'sacristanlaw12.WindowKeeps': WHATEVER THE INPUT: true; the input reads as it did. -/
def windowKeepsSpec : ChangeSpec := { name := "windowKeeps", fn := fun _ => fun
  | [d1, d2, d3, d4] => { results := [.lit (.bool true)], args := [d1, d2, d3, d4] }
  | _ => none }
def windowKeepsRow : OpenClaim := { program := "ytipbgeobgppagaa", sum := "cddf56743a8b22042705fb6b160334c3f1a18ffebc91b85f8b6a811ad6cf314e", func := "sacristan/sacristanlaw12.WindowKeeps", spec := "windowKeeps", apart := false }
def WindowKeepsSaid : Prop := windowKeepsRow.holds Try.pinned (OpenSpec.ofChange windowKeepsSpec)

/-- ITS FALSE NEIGHBOUR: 'it returns false'. Refute it at one input. -/
def windowKeepsWrong : ChangeSpec := { name := "windowKeeps", fn := fun _ => fun
  | [d1, d2, d3, d4] => { results := [.lit (.bool false)], args := [d1, d2, d3, d4] }
  | _ => none }
def WindowKeepsWrongFalsely : Prop := windowKeepsRow.holds Try.pinned (OpenSpec.ofChange windowKeepsWrong)

/-- 'sacristanlaw12.WindowHolds': WHATEVER THE INPUT: true; the input reads as it did. -/
def windowHoldsSpec : ChangeSpec := { name := "windowHolds", fn := fun _ => fun
  | [d1, d2, d3, d4] => { results := [.lit (.bool true)], args := [d1, d2, d3, d4] }
  | _ => none }
def windowHoldsRow : OpenClaim := { program := "ytipbgeobgppagaa", sum := "cddf56743a8b22042705fb6b160334c3f1a18ffebc91b85f8b6a811ad6cf314e", func := "sacristan/sacristanlaw12.WindowHolds", spec := "windowHolds", apart := false }
def WindowHoldsSaid : Prop := windowHoldsRow.holds Try.pinned (OpenSpec.ofChange windowHoldsSpec)

/-- ITS FALSE NEIGHBOUR: 'it returns false'. Refute it at one input. -/
def windowHoldsWrong : ChangeSpec := { name := "windowHolds", fn := fun _ => fun
  | [d1, d2, d3, d4] => { results := [.lit (.bool false)], args := [d1, d2, d3, d4] }
  | _ => none }
def WindowHoldsWrongFalsely : Prop := windowHoldsRow.holds Try.pinned (OpenSpec.ofChange windowHoldsWrong)

/-- 'sacristanlaw12.WindowAdds': WHATEVER THE INPUT: true; the input reads as it did. -/
def windowAddsSpec : ChangeSpec := { name := "windowAdds", fn := fun _ => fun
  | [d1, d2, d3, d4] => { results := [.lit (.bool true)], args := [d1, d2, d3, d4] }
  | _ => none }
def windowAddsRow : OpenClaim := { program := "ytipbgeobgppagaa", sum := "cddf56743a8b22042705fb6b160334c3f1a18ffebc91b85f8b6a811ad6cf314e", func := "sacristan/sacristanlaw12.WindowAdds", spec := "windowAdds", apart := false }
def WindowAddsSaid : Prop := windowAddsRow.holds Try.pinned (OpenSpec.ofChange windowAddsSpec)

/-- ITS FALSE NEIGHBOUR: 'it returns false'. Refute it at one input. -/
def windowAddsWrong : ChangeSpec := { name := "windowAdds", fn := fun _ => fun
  | [d1, d2, d3, d4] => { results := [.lit (.bool false)], args := [d1, d2, d3, d4] }
  | _ => none }
def WindowAddsWrongFalsely : Prop := windowAddsRow.holds Try.pinned (OpenSpec.ofChange windowAddsWrong)

/-- 'sacristanlaw12.WindowMoves': WHATEVER THE INPUT: true; the input reads as it did. -/
def windowMovesSpec : ChangeSpec := { name := "windowMoves", fn := fun _ => fun
  | [d1, d2, d3, d4] => { results := [.lit (.bool true)], args := [d1, d2, d3, d4] }
  | _ => none }
def windowMovesRow : OpenClaim := { program := "ytipbgeobgppagaa", sum := "cddf56743a8b22042705fb6b160334c3f1a18ffebc91b85f8b6a811ad6cf314e", func := "sacristan/sacristanlaw12.WindowMoves", spec := "windowMoves", apart := false }
def WindowMovesSaid : Prop := windowMovesRow.holds Try.pinned (OpenSpec.ofChange windowMovesSpec)

/-- ITS FALSE NEIGHBOUR: 'it returns false'. Refute it at one input. -/
def windowMovesWrong : ChangeSpec := { name := "windowMoves", fn := fun _ => fun
  | [d1, d2, d3, d4] => { results := [.lit (.bool false)], args := [d1, d2, d3, d4] }
  | _ => none }
def WindowMovesWrongFalsely : Prop := windowMovesRow.holds Try.pinned (OpenSpec.ofChange windowMovesWrong)

/-- 'sacristanlaw02.PackOrder': WHATEVER THE INPUT: true; the input reads as it did. -/
def packOrderSpec : ChangeSpec := { name := "packOrder", fn := fun _ => fun
  | [d1, d2, d3] => { results := [.lit (.bool true)], args := [d1, d2, d3] }
  | _ => none }
def packOrderRow : OpenClaim := { program := "ytipbgeobgppagaa", sum := "cddf56743a8b22042705fb6b160334c3f1a18ffebc91b85f8b6a811ad6cf314e", func := "sacristan/sacristanlaw02.PackOrder", spec := "packOrder", apart := false }
def PackOrderSaid : Prop := packOrderRow.holds Try.pinned (OpenSpec.ofChange packOrderSpec)

/-- ITS FALSE NEIGHBOUR: 'it returns false'. Refute it at one input. -/
def packOrderWrong : ChangeSpec := { name := "packOrder", fn := fun _ => fun
  | [d1, d2, d3] => { results := [.lit (.bool false)], args := [d1, d2, d3] }
  | _ => none }
def PackOrderWrongFalsely : Prop := packOrderRow.holds Try.pinned (OpenSpec.ofChange packOrderWrong)

/-- 'sacristanlaw02.PackWrites': WHATEVER THE INPUT: true; the input reads as it did. -/
def packWritesSpec : ChangeSpec := { name := "packWrites", fn := fun _ => fun
  | [d1, d2, d3, d4] => { results := [.lit (.bool true)], args := [d1, d2, d3, d4] }
  | _ => none }
def packWritesRow : OpenClaim := { program := "ytipbgeobgppagaa", sum := "cddf56743a8b22042705fb6b160334c3f1a18ffebc91b85f8b6a811ad6cf314e", func := "sacristan/sacristanlaw02.PackWrites", spec := "packWrites", apart := false }
def PackWritesSaid : Prop := packWritesRow.holds Try.pinned (OpenSpec.ofChange packWritesSpec)

/-- ITS FALSE NEIGHBOUR: 'it returns false'. Refute it at one input. -/
def packWritesWrong : ChangeSpec := { name := "packWrites", fn := fun _ => fun
  | [d1, d2, d3, d4] => { results := [.lit (.bool false)], args := [d1, d2, d3, d4] }
  | _ => none }
def PackWritesWrongFalsely : Prop := packWritesRow.holds Try.pinned (OpenSpec.ofChange packWritesWrong)

/-- 'sacristanlaw02.PackExamples': WHATEVER THE INPUT: true; the input reads as it did. -/
def packExamplesSpec : ChangeSpec := { name := "packExamples", fn := fun _ => fun
  | [] => { results := [.lit (.bool true)], args := [] }
  | _ => none }
def packExamplesRow : OpenClaim := { program := "ytipbgeobgppagaa", sum := "cddf56743a8b22042705fb6b160334c3f1a18ffebc91b85f8b6a811ad6cf314e", func := "sacristan/sacristanlaw02.PackExamples", spec := "packExamples", apart := false }
def PackExamplesSaid : Prop := packExamplesRow.holds Try.pinned (OpenSpec.ofChange packExamplesSpec)

/-- ITS FALSE NEIGHBOUR: 'it returns false'. Refute it at one input. -/
def packExamplesWrong : ChangeSpec := { name := "packExamples", fn := fun _ => fun
  | [] => { results := [.lit (.bool false)], args := [] }
  | _ => none }
def PackExamplesWrongFalsely : Prop := packExamplesRow.holds Try.pinned (OpenSpec.ofChange packExamplesWrong)

/-- 'sacristanlaw02.PackRow': WHATEVER THE INPUT: true; the input reads as it did. -/
def packRowSpec : ChangeSpec := { name := "packRow", fn := fun _ => fun
  | [d] => { results := [.lit (.bool true)], args := [d] }
  | _ => none }
def packRowRow : OpenClaim := { program := "ytipbgeobgppagaa", sum := "cddf56743a8b22042705fb6b160334c3f1a18ffebc91b85f8b6a811ad6cf314e", func := "sacristan/sacristanlaw02.PackRow", spec := "packRow", apart := false }
def PackRowSaid : Prop := packRowRow.holds Try.pinned (OpenSpec.ofChange packRowSpec)

/-- ITS FALSE NEIGHBOUR: 'it returns false'. Refute it at one input. -/
def packRowWrong : ChangeSpec := { name := "packRow", fn := fun _ => fun
  | [d] => { results := [.lit (.bool false)], args := [d] }
  | _ => none }
def PackRowWrongFalsely : Prop := packRowRow.holds Try.pinned (OpenSpec.ofChange packRowWrong)

/-- 'sacristanlaw02.PackReads': WHATEVER THE INPUT: true; the input reads as it did. -/
def packReadsSpec : ChangeSpec := { name := "packReads", fn := fun _ => fun
  | [d] => { results := [.lit (.bool true)], args := [d] }
  | _ => none }
def packReadsRow : OpenClaim := { program := "ytipbgeobgppagaa", sum := "cddf56743a8b22042705fb6b160334c3f1a18ffebc91b85f8b6a811ad6cf314e", func := "sacristan/sacristanlaw02.PackReads", spec := "packReads", apart := false }
def PackReadsSaid : Prop := packReadsRow.holds Try.pinned (OpenSpec.ofChange packReadsSpec)

/-- ITS FALSE NEIGHBOUR: 'it returns false'. Refute it at one input. -/
def packReadsWrong : ChangeSpec := { name := "packReads", fn := fun _ => fun
  | [d] => { results := [.lit (.bool false)], args := [d] }
  | _ => none }
def PackReadsWrongFalsely : Prop := packReadsRow.holds Try.pinned (OpenSpec.ofChange packReadsWrong)

/-- 'sacristanlaw02.PackBack': WHATEVER THE INPUT: true; the input reads as it did. -/
def packBackSpec : ChangeSpec := { name := "packBack", fn := fun _ => fun
  | [d1, d2, d3, d4, d5] => { results := [.lit (.bool true)], args := [d1, d2, d3, d4, d5] }
  | _ => none }
def packBackRow : OpenClaim := { program := "ytipbgeobgppagaa", sum := "cddf56743a8b22042705fb6b160334c3f1a18ffebc91b85f8b6a811ad6cf314e", func := "sacristan/sacristanlaw02.PackBack", spec := "packBack", apart := false }
def PackBackSaid : Prop := packBackRow.holds Try.pinned (OpenSpec.ofChange packBackSpec)

/-- ITS FALSE NEIGHBOUR: 'it returns false'. Refute it at one input. -/
def packBackWrong : ChangeSpec := { name := "packBack", fn := fun _ => fun
  | [d1, d2, d3, d4, d5] => { results := [.lit (.bool false)], args := [d1, d2, d3, d4, d5] }
  | _ => none }
def PackBackWrongFalsely : Prop := packBackRow.holds Try.pinned (OpenSpec.ofChange packBackWrong)

/- THE SECOND FORM. 'bulk': how many values and letters a reading holds, each counted each time it is reached (what is shared counts as often as it is met; a slice's spare places count too). A statement '..UptoSaid' is the law's where the arguments, and the package variables that the reading takes, are together of bulk at most 1048576: NARROWER than '..Said'. Prove '..Said' where nothing that the law and all that it calls make is longer than what came in: it says more and counts as full. Else prove '..UptoSaid'. A law counts once. -/
mutual
def uptoBulk {H : Type} : DataW H → Nat
  | .lit (.string bytes) => bytes.length + 1
  | .lit _ => 1
  | .nil => 1
  | .ptr d => uptoBulk d + 1
  | .slice elems spare => uptoBulkAll elems + uptoBulkAll spare + 1
  | .agg parts => uptoBulkAll parts + 1
  | .iface _ d => uptoBulk d + 1
  | .map entries => uptoBulkEntries entries + 1
  | .held _ => 1
def uptoBulkAll {H : Type} : List (DataW H) → Nat
  | [] => 0
  | d :: r => uptoBulk d + uptoBulkAll r
def uptoBulkEntries {H : Type} : List (Lit × DataW H) → Nat
  | [] => 0
  | x :: r => uptoBulkEntry x + uptoBulkEntries r
def uptoBulkEntry {H : Type} : Lit × DataW H → Nat
  | (.string bytes, d) => bytes.length + uptoBulk d + 1
  | (_, d) => uptoBulk d + 1
 end
def uptoSmall : (H : Type) → List (DataW H) → Bool := fun _ ds => decide (uptoBulkAll ds ≤ 1048576)
def OpenSpec.upto (s : _root_.Go.ChangeSpec) : _root_.Go.OpenSpec := { _root_.Go.OpenSpec.ofChange s with cond := some uptoSmall }

/-- 'sacristanlaw12.WindowMatches', WHERE WHAT IT READS IS OF BULK AT MOST 1048576: true; the input reads as it did. -/
def windowMatchesUptoRow : OpenClaim := { program := "ytipbgeobgppagaa", sum := "cddf56743a8b22042705fb6b160334c3f1a18ffebc91b85f8b6a811ad6cf314e", func := "sacristan/sacristanlaw12.WindowMatches", spec := "windowMatches", apart := false, narrowed := true }
def WindowMatchesUptoSaid : Prop := windowMatchesUptoRow.holds Try.pinned (OpenSpec.upto windowMatchesSpec)

/-- 'sacristanlaw12.WindowExamples', WHERE WHAT IT READS IS OF BULK AT MOST 1048576: true; the input reads as it did. -/
def windowExamplesUptoRow : OpenClaim := { program := "ytipbgeobgppagaa", sum := "cddf56743a8b22042705fb6b160334c3f1a18ffebc91b85f8b6a811ad6cf314e", func := "sacristan/sacristanlaw12.WindowExamples", spec := "windowExamples", apart := false, narrowed := true }
def WindowExamplesUptoSaid : Prop := windowExamplesUptoRow.holds Try.pinned (OpenSpec.upto windowExamplesSpec)

/-- 'sacristanlaw12.WindowKeeps', WHERE WHAT IT READS IS OF BULK AT MOST 1048576: true; the input reads as it did. -/
def windowKeepsUptoRow : OpenClaim := { program := "ytipbgeobgppagaa", sum := "cddf56743a8b22042705fb6b160334c3f1a18ffebc91b85f8b6a811ad6cf314e", func := "sacristan/sacristanlaw12.WindowKeeps", spec := "windowKeeps", apart := false, narrowed := true }
def WindowKeepsUptoSaid : Prop := windowKeepsUptoRow.holds Try.pinned (OpenSpec.upto windowKeepsSpec)

/-- 'sacristanlaw12.WindowHolds', WHERE WHAT IT READS IS OF BULK AT MOST 1048576: true; the input reads as it did. -/
def windowHoldsUptoRow : OpenClaim := { program := "ytipbgeobgppagaa", sum := "cddf56743a8b22042705fb6b160334c3f1a18ffebc91b85f8b6a811ad6cf314e", func := "sacristan/sacristanlaw12.WindowHolds", spec := "windowHolds", apart := false, narrowed := true }
def WindowHoldsUptoSaid : Prop := windowHoldsUptoRow.holds Try.pinned (OpenSpec.upto windowHoldsSpec)

/-- 'sacristanlaw12.WindowAdds', WHERE WHAT IT READS IS OF BULK AT MOST 1048576: true; the input reads as it did. -/
def windowAddsUptoRow : OpenClaim := { program := "ytipbgeobgppagaa", sum := "cddf56743a8b22042705fb6b160334c3f1a18ffebc91b85f8b6a811ad6cf314e", func := "sacristan/sacristanlaw12.WindowAdds", spec := "windowAdds", apart := false, narrowed := true }
def WindowAddsUptoSaid : Prop := windowAddsUptoRow.holds Try.pinned (OpenSpec.upto windowAddsSpec)

/-- 'sacristanlaw12.WindowMoves', WHERE WHAT IT READS IS OF BULK AT MOST 1048576: true; the input reads as it did. -/
def windowMovesUptoRow : OpenClaim := { program := "ytipbgeobgppagaa", sum := "cddf56743a8b22042705fb6b160334c3f1a18ffebc91b85f8b6a811ad6cf314e", func := "sacristan/sacristanlaw12.WindowMoves", spec := "windowMoves", apart := false, narrowed := true }
def WindowMovesUptoSaid : Prop := windowMovesUptoRow.holds Try.pinned (OpenSpec.upto windowMovesSpec)

/-- 'sacristanlaw02.PackOrder', WHERE WHAT IT READS IS OF BULK AT MOST 1048576: true; the input reads as it did. -/
def packOrderUptoRow : OpenClaim := { program := "ytipbgeobgppagaa", sum := "cddf56743a8b22042705fb6b160334c3f1a18ffebc91b85f8b6a811ad6cf314e", func := "sacristan/sacristanlaw02.PackOrder", spec := "packOrder", apart := false, narrowed := true }
def PackOrderUptoSaid : Prop := packOrderUptoRow.holds Try.pinned (OpenSpec.upto packOrderSpec)

/-- 'sacristanlaw02.PackWrites', WHERE WHAT IT READS IS OF BULK AT MOST 1048576: true; the input reads as it did. -/
def packWritesUptoRow : OpenClaim := { program := "ytipbgeobgppagaa", sum := "cddf56743a8b22042705fb6b160334c3f1a18ffebc91b85f8b6a811ad6cf314e", func := "sacristan/sacristanlaw02.PackWrites", spec := "packWrites", apart := false, narrowed := true }
def PackWritesUptoSaid : Prop := packWritesUptoRow.holds Try.pinned (OpenSpec.upto packWritesSpec)

/-- 'sacristanlaw02.PackExamples', WHERE WHAT IT READS IS OF BULK AT MOST 1048576: true; the input reads as it did. -/
def packExamplesUptoRow : OpenClaim := { program := "ytipbgeobgppagaa", sum := "cddf56743a8b22042705fb6b160334c3f1a18ffebc91b85f8b6a811ad6cf314e", func := "sacristan/sacristanlaw02.PackExamples", spec := "packExamples", apart := false, narrowed := true }
def PackExamplesUptoSaid : Prop := packExamplesUptoRow.holds Try.pinned (OpenSpec.upto packExamplesSpec)

/-- 'sacristanlaw02.PackRow', WHERE WHAT IT READS IS OF BULK AT MOST 1048576: true; the input reads as it did. -/
def packRowUptoRow : OpenClaim := { program := "ytipbgeobgppagaa", sum := "cddf56743a8b22042705fb6b160334c3f1a18ffebc91b85f8b6a811ad6cf314e", func := "sacristan/sacristanlaw02.PackRow", spec := "packRow", apart := false, narrowed := true }
def PackRowUptoSaid : Prop := packRowUptoRow.holds Try.pinned (OpenSpec.upto packRowSpec)

/-- 'sacristanlaw02.PackReads', WHERE WHAT IT READS IS OF BULK AT MOST 1048576: true; the input reads as it did. -/
def packReadsUptoRow : OpenClaim := { program := "ytipbgeobgppagaa", sum := "cddf56743a8b22042705fb6b160334c3f1a18ffebc91b85f8b6a811ad6cf314e", func := "sacristan/sacristanlaw02.PackReads", spec := "packReads", apart := false, narrowed := true }
def PackReadsUptoSaid : Prop := packReadsUptoRow.holds Try.pinned (OpenSpec.upto packReadsSpec)

/-- 'sacristanlaw02.PackBack', WHERE WHAT IT READS IS OF BULK AT MOST 1048576: true; the input reads as it did. -/
def packBackUptoRow : OpenClaim := { program := "ytipbgeobgppagaa", sum := "cddf56743a8b22042705fb6b160334c3f1a18ffebc91b85f8b6a811ad6cf314e", func := "sacristan/sacristanlaw02.PackBack", spec := "packBack", apart := false, narrowed := true }
def PackBackUptoSaid : Prop := packBackUptoRow.holds Try.pinned (OpenSpec.upto packBackSpec)

end Rows
end Go.Proofs.Ytipbgeobgppagaa
