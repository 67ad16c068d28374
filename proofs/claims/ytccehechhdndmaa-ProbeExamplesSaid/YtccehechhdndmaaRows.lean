/-
  No cell of these rows narrows 'for every input' (looked for: loops, veiled, ifaces, maps, wideKeys, modest, calm, conditions, laid).
  DERIVED. THE GIVEN ROWS OF THIS SEAT. 12 by the template 'for every input the law returns true; each argument reads behind the call as it read before'; 0 by the template 'total and deterministic' (their statements: YtccehechhdndmaaTotals.lean).
  GIVEN WITH THE SEED: the statements are not yours to turn. If you find one false, say at which input.
  Laid BY PROGRAM, IN A SANDBOX (cutbox-rows.mjs): the forced cells as the released guide's own fill.sh prints them over the translation 8890685b0dc2e621… (all of the seat's roots in one cut). By AI agents, Wed Nov 11 2026. No macro, syntax, notation, axiom, sorry.
-/
import Derived.Test.YtccehechhdndmaaChecked
import GoSem.Claim
import GoSem.ClaimJoined
import GoSem.ClaimMapViews
import Derived.JoinedTies
import Derived.KernelRfl
namespace Go.Proofs.Ytccehechhdndmaa
/- THE CELL 'sum', in the pinned program and in every row, IS THE sha256 OF THE DUMP (.gsa) THAT YtccehechhdndmaaProg.lean LOADS. Nothing in Lean hashes anything: it is a label: what it is worth is what the hold of that sum in a sandbox is worth. -/
noncomputable def Try.pinned : Pinned := { name := "ytccehechhdndmaa", sum := "8890685b0dc2e62196368f9998b229297c57541fba38919f1e76031348f8a3c7", checked := Try.checked }
namespace Rows
def none {H : Type} : Left H := { results := [], args := [] }

/-- 'sacristanlaw03.FuseCounts': WHATEVER THE INPUT: true; the input reads as it did. -/
def fuseCountsSpec : ChangeSpec := { name := "fuseCounts", fn := fun _ => fun
  | [d1, d2, d3] => { results := [.lit (.bool true)], args := [d1, d2, d3] }
  | _ => none }
def fuseCountsRow : OpenClaim := { program := "ytccehechhdndmaa", sum := "8890685b0dc2e62196368f9998b229297c57541fba38919f1e76031348f8a3c7", func := "sacristan/sacristanlaw03.FuseCounts", spec := "fuseCounts", unfollowed := true, recurses := true, plainKeys := false, apart := false }
def FuseCountsSaid : Prop := fuseCountsRow.holds Try.pinned (OpenSpec.ofChange fuseCountsSpec)

/-- ITS FALSE NEIGHBOUR: 'it returns false'. Refute it at one input. -/
def fuseCountsWrong : ChangeSpec := { name := "fuseCounts", fn := fun _ => fun
  | [d1, d2, d3] => { results := [.lit (.bool false)], args := [d1, d2, d3] }
  | _ => none }
def FuseCountsWrongFalsely : Prop := fuseCountsRow.holds Try.pinned (OpenSpec.ofChange fuseCountsWrong)

/-- 'sacristanlaw16.ProbeMatches': WHATEVER THE INPUT: true; the input reads as it did. -/
def probeMatchesSpec : ChangeSpec := { name := "probeMatches", fn := fun _ => fun
  | [d1, d2, d3] => { results := [.lit (.bool true)], args := [d1, d2, d3] }
  | _ => none }
def probeMatchesRow : OpenClaim := { program := "ytccehechhdndmaa", sum := "8890685b0dc2e62196368f9998b229297c57541fba38919f1e76031348f8a3c7", func := "sacristan/sacristanlaw16.ProbeMatches", spec := "probeMatches", unfollowed := true, recurses := true, plainKeys := false, apart := false }
def ProbeMatchesSaid : Prop := probeMatchesRow.holds Try.pinned (OpenSpec.ofChange probeMatchesSpec)

/-- ITS FALSE NEIGHBOUR: 'it returns false'. Refute it at one input. -/
def probeMatchesWrong : ChangeSpec := { name := "probeMatches", fn := fun _ => fun
  | [d1, d2, d3] => { results := [.lit (.bool false)], args := [d1, d2, d3] }
  | _ => none }
def ProbeMatchesWrongFalsely : Prop := probeMatchesRow.holds Try.pinned (OpenSpec.ofChange probeMatchesWrong)

/-- 'sacristanlaw16.ProbeExamples': WHATEVER THE INPUT: true; the input reads as it did. -/
def probeExamplesSpec : ChangeSpec := { name := "probeExamples", fn := fun _ => fun
  | [] => { results := [.lit (.bool true)], args := [] }
  | _ => none }
def probeExamplesRow : OpenClaim := { program := "ytccehechhdndmaa", sum := "8890685b0dc2e62196368f9998b229297c57541fba38919f1e76031348f8a3c7", func := "sacristan/sacristanlaw16.ProbeExamples", spec := "probeExamples", unfollowed := true, recurses := true, plainKeys := false, apart := false }
def ProbeExamplesSaid : Prop := probeExamplesRow.holds Try.pinned (OpenSpec.ofChange probeExamplesSpec)

/-- ITS FALSE NEIGHBOUR: 'it returns false'. Refute it at one input. -/
def probeExamplesWrong : ChangeSpec := { name := "probeExamples", fn := fun _ => fun
  | [] => { results := [.lit (.bool false)], args := [] }
  | _ => none }
def ProbeExamplesWrongFalsely : Prop := probeExamplesRow.holds Try.pinned (OpenSpec.ofChange probeExamplesWrong)

/-- 'sacristanlaw16.ProbeAlone': WHATEVER THE INPUT: true; the input reads as it did. -/
def probeAloneSpec : ChangeSpec := { name := "probeAlone", fn := fun _ => fun
  | [d1, d2] => { results := [.lit (.bool true)], args := [d1, d2] }
  | _ => none }
def probeAloneRow : OpenClaim := { program := "ytccehechhdndmaa", sum := "8890685b0dc2e62196368f9998b229297c57541fba38919f1e76031348f8a3c7", func := "sacristan/sacristanlaw16.ProbeAlone", spec := "probeAlone", unfollowed := true, recurses := true, plainKeys := false, apart := false }
def ProbeAloneSaid : Prop := probeAloneRow.holds Try.pinned (OpenSpec.ofChange probeAloneSpec)

/-- ITS FALSE NEIGHBOUR: 'it returns false'. Refute it at one input. -/
def probeAloneWrong : ChangeSpec := { name := "probeAlone", fn := fun _ => fun
  | [d1, d2] => { results := [.lit (.bool false)], args := [d1, d2] }
  | _ => none }
def ProbeAloneWrongFalsely : Prop := probeAloneRow.holds Try.pinned (OpenSpec.ofChange probeAloneWrong)

/-- 'sacristanlaw16.ProbeOrder': WHATEVER THE INPUT: true; the input reads as it did. -/
def probeOrderSpec : ChangeSpec := { name := "probeOrder", fn := fun _ => fun
  | [d] => { results := [.lit (.bool true)], args := [d] }
  | _ => none }
def probeOrderRow : OpenClaim := { program := "ytccehechhdndmaa", sum := "8890685b0dc2e62196368f9998b229297c57541fba38919f1e76031348f8a3c7", func := "sacristan/sacristanlaw16.ProbeOrder", spec := "probeOrder", unfollowed := true, recurses := true, plainKeys := false, apart := false }
def ProbeOrderSaid : Prop := probeOrderRow.holds Try.pinned (OpenSpec.ofChange probeOrderSpec)

/-- ITS FALSE NEIGHBOUR: 'it returns false'. Refute it at one input. -/
def probeOrderWrong : ChangeSpec := { name := "probeOrder", fn := fun _ => fun
  | [d] => { results := [.lit (.bool false)], args := [d] }
  | _ => none }
def ProbeOrderWrongFalsely : Prop := probeOrderRow.holds Try.pinned (OpenSpec.ofChange probeOrderWrong)

/-- 'sacristanlaw15.LeaseMatches': WHATEVER THE INPUT: true; the input reads as it did. -/
def leaseMatchesSpec : ChangeSpec := { name := "leaseMatches", fn := fun _ => fun
  | [d1, d2, d3] => { results := [.lit (.bool true)], args := [d1, d2, d3] }
  | _ => none }
def leaseMatchesRow : OpenClaim := { program := "ytccehechhdndmaa", sum := "8890685b0dc2e62196368f9998b229297c57541fba38919f1e76031348f8a3c7", func := "sacristan/sacristanlaw15.LeaseMatches", spec := "leaseMatches", unfollowed := true, recurses := true, plainKeys := false, apart := false }
def LeaseMatchesSaid : Prop := leaseMatchesRow.holds Try.pinned (OpenSpec.ofChange leaseMatchesSpec)

/-- ITS FALSE NEIGHBOUR: 'it returns false'. Refute it at one input. -/
def leaseMatchesWrong : ChangeSpec := { name := "leaseMatches", fn := fun _ => fun
  | [d1, d2, d3] => { results := [.lit (.bool false)], args := [d1, d2, d3] }
  | _ => none }
def LeaseMatchesWrongFalsely : Prop := leaseMatchesRow.holds Try.pinned (OpenSpec.ofChange leaseMatchesWrong)

/-- 'sacristanlaw15.LeaseExamples': WHATEVER THE INPUT: true; the input reads as it did. -/
def leaseExamplesSpec : ChangeSpec := { name := "leaseExamples", fn := fun _ => fun
  | [] => { results := [.lit (.bool true)], args := [] }
  | _ => none }
def leaseExamplesRow : OpenClaim := { program := "ytccehechhdndmaa", sum := "8890685b0dc2e62196368f9998b229297c57541fba38919f1e76031348f8a3c7", func := "sacristan/sacristanlaw15.LeaseExamples", spec := "leaseExamples", unfollowed := true, recurses := true, plainKeys := false, apart := false }
def LeaseExamplesSaid : Prop := leaseExamplesRow.holds Try.pinned (OpenSpec.ofChange leaseExamplesSpec)

/-- ITS FALSE NEIGHBOUR: 'it returns false'. Refute it at one input. -/
def leaseExamplesWrong : ChangeSpec := { name := "leaseExamples", fn := fun _ => fun
  | [] => { results := [.lit (.bool false)], args := [] }
  | _ => none }
def LeaseExamplesWrongFalsely : Prop := leaseExamplesRow.holds Try.pinned (OpenSpec.ofChange leaseExamplesWrong)

/-- 'sacristanlaw15.LeaseEnds': WHATEVER THE INPUT: true; the input reads as it did. -/
def leaseEndsSpec : ChangeSpec := { name := "leaseEnds", fn := fun _ => fun
  | [d1, d2, d3, d4] => { results := [.lit (.bool true)], args := [d1, d2, d3, d4] }
  | _ => none }
def leaseEndsRow : OpenClaim := { program := "ytccehechhdndmaa", sum := "8890685b0dc2e62196368f9998b229297c57541fba38919f1e76031348f8a3c7", func := "sacristan/sacristanlaw15.LeaseEnds", spec := "leaseEnds", unfollowed := true, recurses := true, plainKeys := false, apart := false }
def LeaseEndsSaid : Prop := leaseEndsRow.holds Try.pinned (OpenSpec.ofChange leaseEndsSpec)

/-- ITS FALSE NEIGHBOUR: 'it returns false'. Refute it at one input. -/
def leaseEndsWrong : ChangeSpec := { name := "leaseEnds", fn := fun _ => fun
  | [d1, d2, d3, d4] => { results := [.lit (.bool false)], args := [d1, d2, d3, d4] }
  | _ => none }
def LeaseEndsWrongFalsely : Prop := leaseEndsRow.holds Try.pinned (OpenSpec.ofChange leaseEndsWrong)

/-- 'sacristanlaw15.LeaseSame': WHATEVER THE INPUT: true; the input reads as it did. -/
def leaseSameSpec : ChangeSpec := { name := "leaseSame", fn := fun _ => fun
  | [d1, d2, d3] => { results := [.lit (.bool true)], args := [d1, d2, d3] }
  | _ => none }
def leaseSameRow : OpenClaim := { program := "ytccehechhdndmaa", sum := "8890685b0dc2e62196368f9998b229297c57541fba38919f1e76031348f8a3c7", func := "sacristan/sacristanlaw15.LeaseSame", spec := "leaseSame", unfollowed := true, recurses := true, plainKeys := false, apart := false }
def LeaseSameSaid : Prop := leaseSameRow.holds Try.pinned (OpenSpec.ofChange leaseSameSpec)

/-- ITS FALSE NEIGHBOUR: 'it returns false'. Refute it at one input. -/
def leaseSameWrong : ChangeSpec := { name := "leaseSame", fn := fun _ => fun
  | [d1, d2, d3] => { results := [.lit (.bool false)], args := [d1, d2, d3] }
  | _ => none }
def LeaseSameWrongFalsely : Prop := leaseSameRow.holds Try.pinned (OpenSpec.ofChange leaseSameWrong)

/-- 'sacristanlaw03.FuseDoes': WHATEVER THE INPUT: true; the input reads as it did. -/
def fuseDoesSpec : ChangeSpec := { name := "fuseDoes", fn := fun _ => fun
  | [d] => { results := [.lit (.bool true)], args := [d] }
  | _ => none }
def fuseDoesRow : OpenClaim := { program := "ytccehechhdndmaa", sum := "8890685b0dc2e62196368f9998b229297c57541fba38919f1e76031348f8a3c7", func := "sacristan/sacristanlaw03.FuseDoes", spec := "fuseDoes", unfollowed := true, recurses := true, plainKeys := false, apart := false }
def FuseDoesSaid : Prop := fuseDoesRow.holds Try.pinned (OpenSpec.ofChange fuseDoesSpec)

/-- ITS FALSE NEIGHBOUR: 'it returns false'. Refute it at one input. -/
def fuseDoesWrong : ChangeSpec := { name := "fuseDoes", fn := fun _ => fun
  | [d] => { results := [.lit (.bool false)], args := [d] }
  | _ => none }
def FuseDoesWrongFalsely : Prop := fuseDoesRow.holds Try.pinned (OpenSpec.ofChange fuseDoesWrong)

/-- 'sacristanlaw03.FuseExamples': WHATEVER THE INPUT: true; the input reads as it did. -/
def fuseExamplesSpec : ChangeSpec := { name := "fuseExamples", fn := fun _ => fun
  | [] => { results := [.lit (.bool true)], args := [] }
  | _ => none }
def fuseExamplesRow : OpenClaim := { program := "ytccehechhdndmaa", sum := "8890685b0dc2e62196368f9998b229297c57541fba38919f1e76031348f8a3c7", func := "sacristan/sacristanlaw03.FuseExamples", spec := "fuseExamples", unfollowed := true, recurses := true, plainKeys := false, apart := false }
def FuseExamplesSaid : Prop := fuseExamplesRow.holds Try.pinned (OpenSpec.ofChange fuseExamplesSpec)

/-- ITS FALSE NEIGHBOUR: 'it returns false'. Refute it at one input. -/
def fuseExamplesWrong : ChangeSpec := { name := "fuseExamples", fn := fun _ => fun
  | [] => { results := [.lit (.bool false)], args := [] }
  | _ => none }
def FuseExamplesWrongFalsely : Prop := fuseExamplesRow.holds Try.pinned (OpenSpec.ofChange fuseExamplesWrong)

/-- 'sacristanlaw03.FuseCopies': WHATEVER THE INPUT: true; the input reads as it did. -/
def fuseCopiesSpec : ChangeSpec := { name := "fuseCopies", fn := fun _ => fun
  | [d1, d2, d3, d4] => { results := [.lit (.bool true)], args := [d1, d2, d3, d4] }
  | _ => none }
def fuseCopiesRow : OpenClaim := { program := "ytccehechhdndmaa", sum := "8890685b0dc2e62196368f9998b229297c57541fba38919f1e76031348f8a3c7", func := "sacristan/sacristanlaw03.FuseCopies", spec := "fuseCopies", unfollowed := true, recurses := true, plainKeys := false, apart := false }
def FuseCopiesSaid : Prop := fuseCopiesRow.holds Try.pinned (OpenSpec.ofChange fuseCopiesSpec)

/-- ITS FALSE NEIGHBOUR: 'it returns false'. Refute it at one input. -/
def fuseCopiesWrong : ChangeSpec := { name := "fuseCopies", fn := fun _ => fun
  | [d1, d2, d3, d4] => { results := [.lit (.bool false)], args := [d1, d2, d3, d4] }
  | _ => none }
def FuseCopiesWrongFalsely : Prop := fuseCopiesRow.holds Try.pinned (OpenSpec.ofChange fuseCopiesWrong)

/- THE SECOND FORM. 'bulk': how many values and letters a reading holds, each counted each time it is reached (what is shared counts as often as it is met; a slice's spare places count too). A statement '..UptoSaid' is the law's where the arguments, and the package variables that the reading takes, are together of bulk at most 1048576: NARROWER than '..Said'. Prove '..Said' where nothing that the law and all that it calls make is longer than what came in: it says more and counts as full. Else prove '..UptoSaid'. A law counts once. -/
mutual
def uptoBulk {H : Type} : DataW H → Nat
  | .lit (.string bytes) => bytes.length + 1
  | .lit _ => 1
  | .nil => 1
  | .ptr d => uptoBulk d + 1
  | .slice elems spare => uptoBulkAll elems + uptoBulkAll spare + 1
  | .agg parts => uptoBulkAll parts + 1
  | .iface _ d => uptoBulk d + 1
  | .map entries => uptoBulkEntries entries + 1
  | .held _ => 1
def uptoBulkAll {H : Type} : List (DataW H) → Nat
  | [] => 0
  | d :: r => uptoBulk d + uptoBulkAll r
def uptoBulkEntries {H : Type} : List (Lit × DataW H) → Nat
  | [] => 0
  | x :: r => uptoBulkEntry x + uptoBulkEntries r
def uptoBulkEntry {H : Type} : Lit × DataW H → Nat
  | (.string bytes, d) => bytes.length + uptoBulk d + 1
  | (_, d) => uptoBulk d + 1
 end
def uptoSmall : (H : Type) → List (DataW H) → Bool := fun _ ds => decide (uptoBulkAll ds ≤ 1048576)
def OpenSpec.upto (s : _root_.Go.ChangeSpec) : _root_.Go.OpenSpec := { _root_.Go.OpenSpec.ofChange s with cond := some uptoSmall }

/-- 'sacristanlaw03.FuseCounts', WHERE WHAT IT READS IS OF BULK AT MOST 1048576: true; the input reads as it did. -/
def fuseCountsUptoRow : OpenClaim := { program := "ytccehechhdndmaa", sum := "8890685b0dc2e62196368f9998b229297c57541fba38919f1e76031348f8a3c7", func := "sacristan/sacristanlaw03.FuseCounts", spec := "fuseCounts", unfollowed := true, recurses := true, plainKeys := false, apart := false, narrowed := true }
def FuseCountsUptoSaid : Prop := fuseCountsUptoRow.holds Try.pinned (OpenSpec.upto fuseCountsSpec)

/-- 'sacristanlaw16.ProbeMatches', WHERE WHAT IT READS IS OF BULK AT MOST 1048576: true; the input reads as it did. -/
def probeMatchesUptoRow : OpenClaim := { program := "ytccehechhdndmaa", sum := "8890685b0dc2e62196368f9998b229297c57541fba38919f1e76031348f8a3c7", func := "sacristan/sacristanlaw16.ProbeMatches", spec := "probeMatches", unfollowed := true, recurses := true, plainKeys := false, apart := false, narrowed := true }
def ProbeMatchesUptoSaid : Prop := probeMatchesUptoRow.holds Try.pinned (OpenSpec.upto probeMatchesSpec)

/-- 'sacristanlaw16.ProbeExamples', WHERE WHAT IT READS IS OF BULK AT MOST 1048576: true; the input reads as it did. -/
def probeExamplesUptoRow : OpenClaim := { program := "ytccehechhdndmaa", sum := "8890685b0dc2e62196368f9998b229297c57541fba38919f1e76031348f8a3c7", func := "sacristan/sacristanlaw16.ProbeExamples", spec := "probeExamples", unfollowed := true, recurses := true, plainKeys := false, apart := false, narrowed := true }
def ProbeExamplesUptoSaid : Prop := probeExamplesUptoRow.holds Try.pinned (OpenSpec.upto probeExamplesSpec)

/-- 'sacristanlaw16.ProbeAlone', WHERE WHAT IT READS IS OF BULK AT MOST 1048576: true; the input reads as it did. -/
def probeAloneUptoRow : OpenClaim := { program := "ytccehechhdndmaa", sum := "8890685b0dc2e62196368f9998b229297c57541fba38919f1e76031348f8a3c7", func := "sacristan/sacristanlaw16.ProbeAlone", spec := "probeAlone", unfollowed := true, recurses := true, plainKeys := false, apart := false, narrowed := true }
def ProbeAloneUptoSaid : Prop := probeAloneUptoRow.holds Try.pinned (OpenSpec.upto probeAloneSpec)

/-- 'sacristanlaw16.ProbeOrder', WHERE WHAT IT READS IS OF BULK AT MOST 1048576: true; the input reads as it did. -/
def probeOrderUptoRow : OpenClaim := { program := "ytccehechhdndmaa", sum := "8890685b0dc2e62196368f9998b229297c57541fba38919f1e76031348f8a3c7", func := "sacristan/sacristanlaw16.ProbeOrder", spec := "probeOrder", unfollowed := true, recurses := true, plainKeys := false, apart := false, narrowed := true }
def ProbeOrderUptoSaid : Prop := probeOrderUptoRow.holds Try.pinned (OpenSpec.upto probeOrderSpec)

/-- 'sacristanlaw15.LeaseMatches', WHERE WHAT IT READS IS OF BULK AT MOST 1048576: true; the input reads as it did. -/
def leaseMatchesUptoRow : OpenClaim := { program := "ytccehechhdndmaa", sum := "8890685b0dc2e62196368f9998b229297c57541fba38919f1e76031348f8a3c7", func := "sacristan/sacristanlaw15.LeaseMatches", spec := "leaseMatches", unfollowed := true, recurses := true, plainKeys := false, apart := false, narrowed := true }
def LeaseMatchesUptoSaid : Prop := leaseMatchesUptoRow.holds Try.pinned (OpenSpec.upto leaseMatchesSpec)

/-- 'sacristanlaw15.LeaseExamples', WHERE WHAT IT READS IS OF BULK AT MOST 1048576: true; the input reads as it did. -/
def leaseExamplesUptoRow : OpenClaim := { program := "ytccehechhdndmaa", sum := "8890685b0dc2e62196368f9998b229297c57541fba38919f1e76031348f8a3c7", func := "sacristan/sacristanlaw15.LeaseExamples", spec := "leaseExamples", unfollowed := true, recurses := true, plainKeys := false, apart := false, narrowed := true }
def LeaseExamplesUptoSaid : Prop := leaseExamplesUptoRow.holds Try.pinned (OpenSpec.upto leaseExamplesSpec)

/-- 'sacristanlaw15.LeaseEnds', WHERE WHAT IT READS IS OF BULK AT MOST 1048576: true; the input reads as it did. -/
def leaseEndsUptoRow : OpenClaim := { program := "ytccehechhdndmaa", sum := "8890685b0dc2e62196368f9998b229297c57541fba38919f1e76031348f8a3c7", func := "sacristan/sacristanlaw15.LeaseEnds", spec := "leaseEnds", unfollowed := true, recurses := true, plainKeys := false, apart := false, narrowed := true }
def LeaseEndsUptoSaid : Prop := leaseEndsUptoRow.holds Try.pinned (OpenSpec.upto leaseEndsSpec)

/-- 'sacristanlaw15.LeaseSame', WHERE WHAT IT READS IS OF BULK AT MOST 1048576: true; the input reads as it did. -/
def leaseSameUptoRow : OpenClaim := { program := "ytccehechhdndmaa", sum := "8890685b0dc2e62196368f9998b229297c57541fba38919f1e76031348f8a3c7", func := "sacristan/sacristanlaw15.LeaseSame", spec := "leaseSame", unfollowed := true, recurses := true, plainKeys := false, apart := false, narrowed := true }
def LeaseSameUptoSaid : Prop := leaseSameUptoRow.holds Try.pinned (OpenSpec.upto leaseSameSpec)

/-- 'sacristanlaw03.FuseDoes', WHERE WHAT IT READS IS OF BULK AT MOST 1048576: true; the input reads as it did. -/
def fuseDoesUptoRow : OpenClaim := { program := "ytccehechhdndmaa", sum := "8890685b0dc2e62196368f9998b229297c57541fba38919f1e76031348f8a3c7", func := "sacristan/sacristanlaw03.FuseDoes", spec := "fuseDoes", unfollowed := true, recurses := true, plainKeys := false, apart := false, narrowed := true }
def FuseDoesUptoSaid : Prop := fuseDoesUptoRow.holds Try.pinned (OpenSpec.upto fuseDoesSpec)

/-- 'sacristanlaw03.FuseExamples', WHERE WHAT IT READS IS OF BULK AT MOST 1048576: true; the input reads as it did. -/
def fuseExamplesUptoRow : OpenClaim := { program := "ytccehechhdndmaa", sum := "8890685b0dc2e62196368f9998b229297c57541fba38919f1e76031348f8a3c7", func := "sacristan/sacristanlaw03.FuseExamples", spec := "fuseExamples", unfollowed := true, recurses := true, plainKeys := false, apart := false, narrowed := true }
def FuseExamplesUptoSaid : Prop := fuseExamplesUptoRow.holds Try.pinned (OpenSpec.upto fuseExamplesSpec)

/-- 'sacristanlaw03.FuseCopies', WHERE WHAT IT READS IS OF BULK AT MOST 1048576: true; the input reads as it did. -/
def fuseCopiesUptoRow : OpenClaim := { program := "ytccehechhdndmaa", sum := "8890685b0dc2e62196368f9998b229297c57541fba38919f1e76031348f8a3c7", func := "sacristan/sacristanlaw03.FuseCopies", spec := "fuseCopies", unfollowed := true, recurses := true, plainKeys := false, apart := false, narrowed := true }
def FuseCopiesUptoSaid : Prop := fuseCopiesUptoRow.holds Try.pinned (OpenSpec.upto fuseCopiesSpec)

end Rows
end Go.Proofs.Ytccehechhdndmaa
