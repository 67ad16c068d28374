/-
  No cell of these rows narrows 'for every input' (looked for: loops, veiled, ifaces, maps, wideKeys, modest, calm, conditions, laid).
  DERIVED. THE GIVEN ROWS OF THIS SEAT. 9 by the template 'for every input the law returns true; each argument reads behind the call as it read before'; 0 by the template 'total and deterministic' (their statements: YtkhcdichdnbcmaaRTotals.lean).
  GIVEN WITH THE SEED: the statements are not yours to turn. If you find one false, say at which input.
  Laid BY PROGRAM, IN A SANDBOX (cutbox-rows.mjs): the forced cells as the released guide's own fill.sh prints them over the translation 83391b68ac71dea6… (all of the seat's roots in one cut). By AI agents, Wed Nov 11 2026. No macro, syntax, notation, axiom, sorry.
-/
import Derived.Test.YtkhcdichdnbcmaaRChecked
import GoSem.Claim
import GoSem.ClaimJoined
import GoSem.ClaimMapViews
import Derived.JoinedTies
import Derived.KernelRfl
namespace Go.Proofs.YtkhcdichdnbcmaaR
/- THE CELL 'sum', in the pinned program and in every row, IS THE sha256 OF THE DUMP (.gsa) THAT YtkhcdichdnbcmaaRProg.lean LOADS. Nothing in Lean hashes anything: it is a label: what it is worth is what the hold of that sum in a sandbox is worth. -/
noncomputable def Try.pinned : Pinned := { name := "ytkhcdichdnbcmaar", sum := "83391b68ac71dea6184d5cacc9a272bc39ebdd257088b49156ae546721b96fe1", checked := Try.checked }
namespace Rows
def none {H : Type} : Left H := { results := [], args := [] }

/-- 'sacristanlaw18.CmdAlike': WHATEVER THE INPUT: true; the input reads as it did. -/
def cmdAlikeSpec : ChangeSpec := { name := "cmdAlike", fn := fun _ => fun
  | [d1, d2, d3] => { results := [.lit (.bool true)], args := [d1, d2, d3] }
  | _ => none }
def cmdAlikeRow : OpenClaim := { program := "ytkhcdichdnbcmaar", sum := "83391b68ac71dea6184d5cacc9a272bc39ebdd257088b49156ae546721b96fe1", func := "sacristan/sacristanlaw18.CmdAlike", spec := "cmdAlike", unfollowed := true, recurses := true, apart := false }
def CmdAlikeSaid : Prop := cmdAlikeRow.holds Try.pinned (OpenSpec.ofChange cmdAlikeSpec)

/-- ITS FALSE NEIGHBOUR: 'it returns false'. Refute it at one input. -/
def cmdAlikeWrong : ChangeSpec := { name := "cmdAlike", fn := fun _ => fun
  | [d1, d2, d3] => { results := [.lit (.bool false)], args := [d1, d2, d3] }
  | _ => none }
def CmdAlikeWrongFalsely : Prop := cmdAlikeRow.holds Try.pinned (OpenSpec.ofChange cmdAlikeWrong)

/-- 'sacristanlaw18.CmdMatches': WHATEVER THE INPUT: true; the input reads as it did. -/
def cmdMatchesSpec : ChangeSpec := { name := "cmdMatches", fn := fun _ => fun
  | [d] => { results := [.lit (.bool true)], args := [d] }
  | _ => none }
def cmdMatchesRow : OpenClaim := { program := "ytkhcdichdnbcmaar", sum := "83391b68ac71dea6184d5cacc9a272bc39ebdd257088b49156ae546721b96fe1", func := "sacristan/sacristanlaw18.CmdMatches", spec := "cmdMatches", unfollowed := true, recurses := true, apart := false }
def CmdMatchesSaid : Prop := cmdMatchesRow.holds Try.pinned (OpenSpec.ofChange cmdMatchesSpec)

/-- ITS FALSE NEIGHBOUR: 'it returns false'. Refute it at one input. -/
def cmdMatchesWrong : ChangeSpec := { name := "cmdMatches", fn := fun _ => fun
  | [d] => { results := [.lit (.bool false)], args := [d] }
  | _ => none }
def CmdMatchesWrongFalsely : Prop := cmdMatchesRow.holds Try.pinned (OpenSpec.ofChange cmdMatchesWrong)

/-- 'sacristanlaw18.CmdReads': WHATEVER THE INPUT: true; the input reads as it did. -/
def cmdReadsSpec : ChangeSpec := { name := "cmdReads", fn := fun _ => fun
  | [d] => { results := [.lit (.bool true)], args := [d] }
  | _ => none }
def cmdReadsRow : OpenClaim := { program := "ytkhcdichdnbcmaar", sum := "83391b68ac71dea6184d5cacc9a272bc39ebdd257088b49156ae546721b96fe1", func := "sacristan/sacristanlaw18.CmdReads", spec := "cmdReads", unfollowed := true, recurses := true, apart := false }
def CmdReadsSaid : Prop := cmdReadsRow.holds Try.pinned (OpenSpec.ofChange cmdReadsSpec)

/-- ITS FALSE NEIGHBOUR: 'it returns false'. Refute it at one input. -/
def cmdReadsWrong : ChangeSpec := { name := "cmdReads", fn := fun _ => fun
  | [d] => { results := [.lit (.bool false)], args := [d] }
  | _ => none }
def CmdReadsWrongFalsely : Prop := cmdReadsRow.holds Try.pinned (OpenSpec.ofChange cmdReadsWrong)

/-- 'sacristanlaw18.CmdExamples': WHATEVER THE INPUT: true; the input reads as it did. -/
def cmdExamplesSpec : ChangeSpec := { name := "cmdExamples", fn := fun _ => fun
  | [] => { results := [.lit (.bool true)], args := [] }
  | _ => none }
def cmdExamplesRow : OpenClaim := { program := "ytkhcdichdnbcmaar", sum := "83391b68ac71dea6184d5cacc9a272bc39ebdd257088b49156ae546721b96fe1", func := "sacristan/sacristanlaw18.CmdExamples", spec := "cmdExamples", unfollowed := true, recurses := true, apart := false }
def CmdExamplesSaid : Prop := cmdExamplesRow.holds Try.pinned (OpenSpec.ofChange cmdExamplesSpec)

/-- ITS FALSE NEIGHBOUR: 'it returns false'. Refute it at one input. -/
def cmdExamplesWrong : ChangeSpec := { name := "cmdExamples", fn := fun _ => fun
  | [] => { results := [.lit (.bool false)], args := [] }
  | _ => none }
def CmdExamplesWrongFalsely : Prop := cmdExamplesRow.holds Try.pinned (OpenSpec.ofChange cmdExamplesWrong)

/-- 'sacristanlaw18.CmdBack': WHATEVER THE INPUT: true; the input reads as it did. -/
def cmdBackSpec : ChangeSpec := { name := "cmdBack", fn := fun _ => fun
  | [d1, d2, d3] => { results := [.lit (.bool true)], args := [d1, d2, d3] }
  | _ => none }
def cmdBackRow : OpenClaim := { program := "ytkhcdichdnbcmaar", sum := "83391b68ac71dea6184d5cacc9a272bc39ebdd257088b49156ae546721b96fe1", func := "sacristan/sacristanlaw18.CmdBack", spec := "cmdBack", unfollowed := true, recurses := true, apart := false }
def CmdBackSaid : Prop := cmdBackRow.holds Try.pinned (OpenSpec.ofChange cmdBackSpec)

/-- ITS FALSE NEIGHBOUR: 'it returns false'. Refute it at one input. -/
def cmdBackWrong : ChangeSpec := { name := "cmdBack", fn := fun _ => fun
  | [d1, d2, d3] => { results := [.lit (.bool false)], args := [d1, d2, d3] }
  | _ => none }
def CmdBackWrongFalsely : Prop := cmdBackRow.holds Try.pinned (OpenSpec.ofChange cmdBackWrong)

/-- 'sacristanlaw17.RecReads': WHATEVER THE INPUT: true; the input reads as it did. -/
def recReadsSpec : ChangeSpec := { name := "recReads", fn := fun _ => fun
  | [d] => { results := [.lit (.bool true)], args := [d] }
  | _ => none }
def recReadsRow : OpenClaim := { program := "ytkhcdichdnbcmaar", sum := "83391b68ac71dea6184d5cacc9a272bc39ebdd257088b49156ae546721b96fe1", func := "sacristan/sacristanlaw17.RecReads", spec := "recReads", unfollowed := true, recurses := true, apart := false }
def RecReadsSaid : Prop := recReadsRow.holds Try.pinned (OpenSpec.ofChange recReadsSpec)

/-- ITS FALSE NEIGHBOUR: 'it returns false'. Refute it at one input. -/
def recReadsWrong : ChangeSpec := { name := "recReads", fn := fun _ => fun
  | [d] => { results := [.lit (.bool false)], args := [d] }
  | _ => none }
def RecReadsWrongFalsely : Prop := recReadsRow.holds Try.pinned (OpenSpec.ofChange recReadsWrong)

/-- 'sacristanlaw17.RecBack': WHATEVER THE INPUT: true; the input reads as it did. -/
def recBackSpec : ChangeSpec := { name := "recBack", fn := fun _ => fun
  | [d1, d2, d3] => { results := [.lit (.bool true)], args := [d1, d2, d3] }
  | _ => none }
def recBackRow : OpenClaim := { program := "ytkhcdichdnbcmaar", sum := "83391b68ac71dea6184d5cacc9a272bc39ebdd257088b49156ae546721b96fe1", func := "sacristan/sacristanlaw17.RecBack", spec := "recBack", unfollowed := true, recurses := true, apart := false }
def RecBackSaid : Prop := recBackRow.holds Try.pinned (OpenSpec.ofChange recBackSpec)

/-- ITS FALSE NEIGHBOUR: 'it returns false'. Refute it at one input. -/
def recBackWrong : ChangeSpec := { name := "recBack", fn := fun _ => fun
  | [d1, d2, d3] => { results := [.lit (.bool false)], args := [d1, d2, d3] }
  | _ => none }
def RecBackWrongFalsely : Prop := recBackRow.holds Try.pinned (OpenSpec.ofChange recBackWrong)

/-- 'sacristanlaw17.RecApart': WHATEVER THE INPUT: true; the input reads as it did. -/
def recApartSpec : ChangeSpec := { name := "recApart", fn := fun _ => fun
  | [d1, d2, d3] => { results := [.lit (.bool true)], args := [d1, d2, d3] }
  | _ => none }
def recApartRow : OpenClaim := { program := "ytkhcdichdnbcmaar", sum := "83391b68ac71dea6184d5cacc9a272bc39ebdd257088b49156ae546721b96fe1", func := "sacristan/sacristanlaw17.RecApart", spec := "recApart", unfollowed := true, recurses := true, apart := false }
def RecApartSaid : Prop := recApartRow.holds Try.pinned (OpenSpec.ofChange recApartSpec)

/-- ITS FALSE NEIGHBOUR: 'it returns false'. Refute it at one input. -/
def recApartWrong : ChangeSpec := { name := "recApart", fn := fun _ => fun
  | [d1, d2, d3] => { results := [.lit (.bool false)], args := [d1, d2, d3] }
  | _ => none }
def RecApartWrongFalsely : Prop := recApartRow.holds Try.pinned (OpenSpec.ofChange recApartWrong)

/-- 'sacristanlaw17.RecMatches': WHATEVER THE INPUT: true; the input reads as it did. -/
def recMatchesSpec : ChangeSpec := { name := "recMatches", fn := fun _ => fun
  | [d1, d2] => { results := [.lit (.bool true)], args := [d1, d2] }
  | _ => none }
def recMatchesRow : OpenClaim := { program := "ytkhcdichdnbcmaar", sum := "83391b68ac71dea6184d5cacc9a272bc39ebdd257088b49156ae546721b96fe1", func := "sacristan/sacristanlaw17.RecMatches", spec := "recMatches", unfollowed := true, recurses := true, apart := false }
def RecMatchesSaid : Prop := recMatchesRow.holds Try.pinned (OpenSpec.ofChange recMatchesSpec)

/-- ITS FALSE NEIGHBOUR: 'it returns false'. Refute it at one input. -/
def recMatchesWrong : ChangeSpec := { name := "recMatches", fn := fun _ => fun
  | [d1, d2] => { results := [.lit (.bool false)], args := [d1, d2] }
  | _ => none }
def RecMatchesWrongFalsely : Prop := recMatchesRow.holds Try.pinned (OpenSpec.ofChange recMatchesWrong)

/- THE SECOND FORM. 'bulk': how many values and letters a reading holds, each counted each time it is reached (what is shared counts as often as it is met; a slice's spare places count too). A statement '..UptoSaid' is the law's where the arguments, and the package variables that the reading takes, are together of bulk at most 1048576: NARROWER than '..Said'. Prove '..Said' where nothing that the law and all that it calls make is longer than what came in: it says more and counts as full. Else prove '..UptoSaid'. A law counts once. -/
mutual
def uptoBulk {H : Type} : DataW H → Nat
  | .lit (.string bytes) => bytes.length + 1
  | .lit _ => 1
  | .nil => 1
  | .ptr d => uptoBulk d + 1
  | .slice elems spare => uptoBulkAll elems + uptoBulkAll spare + 1
  | .agg parts => uptoBulkAll parts + 1
  | .iface _ d => uptoBulk d + 1
  | .map entries => uptoBulkEntries entries + 1
  | .held _ => 1
def uptoBulkAll {H : Type} : List (DataW H) → Nat
  | [] => 0
  | d :: r => uptoBulk d + uptoBulkAll r
def uptoBulkEntries {H : Type} : List (Lit × DataW H) → Nat
  | [] => 0
  | x :: r => uptoBulkEntry x + uptoBulkEntries r
def uptoBulkEntry {H : Type} : Lit × DataW H → Nat
  | (.string bytes, d) => bytes.length + uptoBulk d + 1
  | (_, d) => uptoBulk d + 1
 end
def uptoSmall : (H : Type) → List (DataW H) → Bool := fun _ ds => decide (uptoBulkAll ds ≤ 1048576)
def OpenSpec.upto (s : _root_.Go.ChangeSpec) : _root_.Go.OpenSpec := { _root_.Go.OpenSpec.ofChange s with cond := some uptoSmall }

/-- 'sacristanlaw18.CmdAlike', WHERE WHAT IT READS IS OF BULK AT MOST 1048576: true; the input reads as it did. -/
def cmdAlikeUptoRow : OpenClaim := { program := "ytkhcdichdnbcmaar", sum := "83391b68ac71dea6184d5cacc9a272bc39ebdd257088b49156ae546721b96fe1", func := "sacristan/sacristanlaw18.CmdAlike", spec := "cmdAlike", unfollowed := true, recurses := true, apart := false, narrowed := true }
def CmdAlikeUptoSaid : Prop := cmdAlikeUptoRow.holds Try.pinned (OpenSpec.upto cmdAlikeSpec)

/-- 'sacristanlaw18.CmdMatches', WHERE WHAT IT READS IS OF BULK AT MOST 1048576: true; the input reads as it did. -/
def cmdMatchesUptoRow : OpenClaim := { program := "ytkhcdichdnbcmaar", sum := "83391b68ac71dea6184d5cacc9a272bc39ebdd257088b49156ae546721b96fe1", func := "sacristan/sacristanlaw18.CmdMatches", spec := "cmdMatches", unfollowed := true, recurses := true, apart := false, narrowed := true }
def CmdMatchesUptoSaid : Prop := cmdMatchesUptoRow.holds Try.pinned (OpenSpec.upto cmdMatchesSpec)

/-- 'sacristanlaw18.CmdReads', WHERE WHAT IT READS IS OF BULK AT MOST 1048576: true; the input reads as it did. -/
def cmdReadsUptoRow : OpenClaim := { program := "ytkhcdichdnbcmaar", sum := "83391b68ac71dea6184d5cacc9a272bc39ebdd257088b49156ae546721b96fe1", func := "sacristan/sacristanlaw18.CmdReads", spec := "cmdReads", unfollowed := true, recurses := true, apart := false, narrowed := true }
def CmdReadsUptoSaid : Prop := cmdReadsUptoRow.holds Try.pinned (OpenSpec.upto cmdReadsSpec)

/-- 'sacristanlaw18.CmdExamples', WHERE WHAT IT READS IS OF BULK AT MOST 1048576: true; the input reads as it did. -/
def cmdExamplesUptoRow : OpenClaim := { program := "ytkhcdichdnbcmaar", sum := "83391b68ac71dea6184d5cacc9a272bc39ebdd257088b49156ae546721b96fe1", func := "sacristan/sacristanlaw18.CmdExamples", spec := "cmdExamples", unfollowed := true, recurses := true, apart := false, narrowed := true }
def CmdExamplesUptoSaid : Prop := cmdExamplesUptoRow.holds Try.pinned (OpenSpec.upto cmdExamplesSpec)

/-- 'sacristanlaw18.CmdBack', WHERE WHAT IT READS IS OF BULK AT MOST 1048576: true; the input reads as it did. -/
def cmdBackUptoRow : OpenClaim := { program := "ytkhcdichdnbcmaar", sum := "83391b68ac71dea6184d5cacc9a272bc39ebdd257088b49156ae546721b96fe1", func := "sacristan/sacristanlaw18.CmdBack", spec := "cmdBack", unfollowed := true, recurses := true, apart := false, narrowed := true }
def CmdBackUptoSaid : Prop := cmdBackUptoRow.holds Try.pinned (OpenSpec.upto cmdBackSpec)

/-- 'sacristanlaw17.RecReads', WHERE WHAT IT READS IS OF BULK AT MOST 1048576: true; the input reads as it did. -/
def recReadsUptoRow : OpenClaim := { program := "ytkhcdichdnbcmaar", sum := "83391b68ac71dea6184d5cacc9a272bc39ebdd257088b49156ae546721b96fe1", func := "sacristan/sacristanlaw17.RecReads", spec := "recReads", unfollowed := true, recurses := true, apart := false, narrowed := true }
def RecReadsUptoSaid : Prop := recReadsUptoRow.holds Try.pinned (OpenSpec.upto recReadsSpec)

/-- 'sacristanlaw17.RecBack', WHERE WHAT IT READS IS OF BULK AT MOST 1048576: true; the input reads as it did. -/
def recBackUptoRow : OpenClaim := { program := "ytkhcdichdnbcmaar", sum := "83391b68ac71dea6184d5cacc9a272bc39ebdd257088b49156ae546721b96fe1", func := "sacristan/sacristanlaw17.RecBack", spec := "recBack", unfollowed := true, recurses := true, apart := false, narrowed := true }
def RecBackUptoSaid : Prop := recBackUptoRow.holds Try.pinned (OpenSpec.upto recBackSpec)

/-- 'sacristanlaw17.RecApart', WHERE WHAT IT READS IS OF BULK AT MOST 1048576: true; the input reads as it did. -/
def recApartUptoRow : OpenClaim := { program := "ytkhcdichdnbcmaar", sum := "83391b68ac71dea6184d5cacc9a272bc39ebdd257088b49156ae546721b96fe1", func := "sacristan/sacristanlaw17.RecApart", spec := "recApart", unfollowed := true, recurses := true, apart := false, narrowed := true }
def RecApartUptoSaid : Prop := recApartUptoRow.holds Try.pinned (OpenSpec.upto recApartSpec)

/-- 'sacristanlaw17.RecMatches', WHERE WHAT IT READS IS OF BULK AT MOST 1048576: true; the input reads as it did. -/
def recMatchesUptoRow : OpenClaim := { program := "ytkhcdichdnbcmaar", sum := "83391b68ac71dea6184d5cacc9a272bc39ebdd257088b49156ae546721b96fe1", func := "sacristan/sacristanlaw17.RecMatches", spec := "recMatches", unfollowed := true, recurses := true, apart := false, narrowed := true }
def RecMatchesUptoSaid : Prop := recMatchesUptoRow.holds Try.pinned (OpenSpec.upto recMatchesSpec)

end Rows
end Go.Proofs.YtkhcdichdnbcmaaR
