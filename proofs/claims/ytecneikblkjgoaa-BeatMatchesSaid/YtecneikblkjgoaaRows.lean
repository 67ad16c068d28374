/-
  No cell of these rows narrows 'for every input' (looked for: loops, veiled, ifaces, maps, wideKeys, modest, calm, conditions, laid).
  DERIVED. THE GIVEN ROWS OF THIS SEAT. 9 by the template 'for every input the law returns true; each argument reads behind the call as it read before'; 0 by the template 'total and deterministic' (their statements: YtecneikblkjgoaaTotals.lean).
  GIVEN WITH THE SEED: the statements are not yours to turn. If you find one false, say at which input.
  Laid BY PROGRAM, IN A SANDBOX (cutbox-rows.mjs): the forced cells as the released guide's own fill.sh prints them over the translation ae85438ab9c90861… (all of the seat's roots in one cut). By AI agents, Wed Nov 11 2026. No macro, syntax, notation, axiom, sorry.
-/
import Derived.Test.YtecneikblkjgoaaChecked
import GoSem.Claim
import GoSem.ClaimJoined
import GoSem.ClaimMapViews
import Derived.JoinedTies
import Derived.KernelRfl
namespace Go.Proofs.Ytecneikblkjgoaa
/- THE CELL 'sum', in the pinned program and in every row, IS THE sha256 OF THE DUMP (.gsa) THAT YtecneikblkjgoaaProg.lean LOADS. Nothing in Lean hashes anything: it is a label: what it is worth is what the hold of that sum in a sandbox is worth. -/
noncomputable def Try.pinned : Pinned := { name := "ytecneikblkjgoaa", sum := "ae85438ab9c90861df7f2793051dbf8320661da3ec2c205a56f798e7c2a42586", checked := Try.checked }
namespace Rows
def none {H : Type} : Left H := { results := [], args := [] }

/-- 'sacristanlaw28.BeatGrows': WHATEVER THE INPUT: true; the input reads as it did. -/
def beatGrowsSpec : ChangeSpec := { name := "beatGrows", fn := fun _ => fun
  | [d1, d2] => { results := [.lit (.bool true)], args := [d1, d2] }
  | _ => none }
def beatGrowsRow : OpenClaim := { program := "ytecneikblkjgoaa", sum := "ae85438ab9c90861df7f2793051dbf8320661da3ec2c205a56f798e7c2a42586", func := "sacristan/sacristanlaw28.BeatGrows", spec := "beatGrows", unfollowed := true, recurses := true, apart := false }
def BeatGrowsSaid : Prop := beatGrowsRow.holds Try.pinned (OpenSpec.ofChange beatGrowsSpec)

/-- ITS FALSE NEIGHBOUR: 'it returns false'. Refute it at one input. -/
def beatGrowsWrong : ChangeSpec := { name := "beatGrows", fn := fun _ => fun
  | [d1, d2] => { results := [.lit (.bool false)], args := [d1, d2] }
  | _ => none }
def BeatGrowsWrongFalsely : Prop := beatGrowsRow.holds Try.pinned (OpenSpec.ofChange beatGrowsWrong)

/-- 'sacristanlaw28.BeatShares': WHATEVER THE INPUT: true; the input reads as it did. -/
def beatSharesSpec : ChangeSpec := { name := "beatShares", fn := fun _ => fun
  | [d1, d2] => { results := [.lit (.bool true)], args := [d1, d2] }
  | _ => none }
def beatSharesRow : OpenClaim := { program := "ytecneikblkjgoaa", sum := "ae85438ab9c90861df7f2793051dbf8320661da3ec2c205a56f798e7c2a42586", func := "sacristan/sacristanlaw28.BeatShares", spec := "beatShares", unfollowed := true, recurses := true, apart := false }
def BeatSharesSaid : Prop := beatSharesRow.holds Try.pinned (OpenSpec.ofChange beatSharesSpec)

/-- ITS FALSE NEIGHBOUR: 'it returns false'. Refute it at one input. -/
def beatSharesWrong : ChangeSpec := { name := "beatShares", fn := fun _ => fun
  | [d1, d2] => { results := [.lit (.bool false)], args := [d1, d2] }
  | _ => none }
def BeatSharesWrongFalsely : Prop := beatSharesRow.holds Try.pinned (OpenSpec.ofChange beatSharesWrong)

/-- 'sacristanlaw28.BeatNames': WHATEVER THE INPUT: true; the input reads as it did. -/
def beatNamesSpec : ChangeSpec := { name := "beatNames", fn := fun _ => fun
  | [] => { results := [.lit (.bool true)], args := [] }
  | _ => none }
def beatNamesRow : OpenClaim := { program := "ytecneikblkjgoaa", sum := "ae85438ab9c90861df7f2793051dbf8320661da3ec2c205a56f798e7c2a42586", func := "sacristan/sacristanlaw28.BeatNames", spec := "beatNames", unfollowed := true, recurses := true, apart := false }
def BeatNamesSaid : Prop := beatNamesRow.holds Try.pinned (OpenSpec.ofChange beatNamesSpec)

/-- ITS FALSE NEIGHBOUR: 'it returns false'. Refute it at one input. -/
def beatNamesWrong : ChangeSpec := { name := "beatNames", fn := fun _ => fun
  | [] => { results := [.lit (.bool false)], args := [] }
  | _ => none }
def BeatNamesWrongFalsely : Prop := beatNamesRow.holds Try.pinned (OpenSpec.ofChange beatNamesWrong)

/-- 'sacristanlaw28.BeatMatches': WHATEVER THE INPUT: true; the input reads as it did. -/
def beatMatchesSpec : ChangeSpec := { name := "beatMatches", fn := fun _ => fun
  | [d1, d2] => { results := [.lit (.bool true)], args := [d1, d2] }
  | _ => none }
def beatMatchesRow : OpenClaim := { program := "ytecneikblkjgoaa", sum := "ae85438ab9c90861df7f2793051dbf8320661da3ec2c205a56f798e7c2a42586", func := "sacristan/sacristanlaw28.BeatMatches", spec := "beatMatches", unfollowed := true, recurses := true, apart := false }
def BeatMatchesSaid : Prop := beatMatchesRow.holds Try.pinned (OpenSpec.ofChange beatMatchesSpec)

/-- ITS FALSE NEIGHBOUR: 'it returns false'. Refute it at one input. -/
def beatMatchesWrong : ChangeSpec := { name := "beatMatches", fn := fun _ => fun
  | [d1, d2] => { results := [.lit (.bool false)], args := [d1, d2] }
  | _ => none }
def BeatMatchesWrongFalsely : Prop := beatMatchesRow.holds Try.pinned (OpenSpec.ofChange beatMatchesWrong)

/-- 'sacristanlaw27.ProcKeeps': WHATEVER THE INPUT: true; the input reads as it did. -/
def procKeepsSpec : ChangeSpec := { name := "procKeeps", fn := fun _ => fun
  | [d] => { results := [.lit (.bool true)], args := [d] }
  | _ => none }
def procKeepsRow : OpenClaim := { program := "ytecneikblkjgoaa", sum := "ae85438ab9c90861df7f2793051dbf8320661da3ec2c205a56f798e7c2a42586", func := "sacristan/sacristanlaw27.ProcKeeps", spec := "procKeeps", unfollowed := true, recurses := true, apart := false }
def ProcKeepsSaid : Prop := procKeepsRow.holds Try.pinned (OpenSpec.ofChange procKeepsSpec)

/-- ITS FALSE NEIGHBOUR: 'it returns false'. Refute it at one input. -/
def procKeepsWrong : ChangeSpec := { name := "procKeeps", fn := fun _ => fun
  | [d] => { results := [.lit (.bool false)], args := [d] }
  | _ => none }
def ProcKeepsWrongFalsely : Prop := procKeepsRow.holds Try.pinned (OpenSpec.ofChange procKeepsWrong)

/-- 'sacristanlaw27.ProcDead': WHATEVER THE INPUT: true; the input reads as it did. -/
def procDeadSpec : ChangeSpec := { name := "procDead", fn := fun _ => fun
  | [d1, d2] => { results := [.lit (.bool true)], args := [d1, d2] }
  | _ => none }
def procDeadRow : OpenClaim := { program := "ytecneikblkjgoaa", sum := "ae85438ab9c90861df7f2793051dbf8320661da3ec2c205a56f798e7c2a42586", func := "sacristan/sacristanlaw27.ProcDead", spec := "procDead", unfollowed := true, recurses := true, apart := false }
def ProcDeadSaid : Prop := procDeadRow.holds Try.pinned (OpenSpec.ofChange procDeadSpec)

/-- ITS FALSE NEIGHBOUR: 'it returns false'. Refute it at one input. -/
def procDeadWrong : ChangeSpec := { name := "procDead", fn := fun _ => fun
  | [d1, d2] => { results := [.lit (.bool false)], args := [d1, d2] }
  | _ => none }
def ProcDeadWrongFalsely : Prop := procDeadRow.holds Try.pinned (OpenSpec.ofChange procDeadWrong)

/-- 'sacristanlaw27.ProcLists': WHATEVER THE INPUT: true; the input reads as it did. -/
def procListsSpec : ChangeSpec := { name := "procLists", fn := fun _ => fun
  | [d1, d2] => { results := [.lit (.bool true)], args := [d1, d2] }
  | _ => none }
def procListsRow : OpenClaim := { program := "ytecneikblkjgoaa", sum := "ae85438ab9c90861df7f2793051dbf8320661da3ec2c205a56f798e7c2a42586", func := "sacristan/sacristanlaw27.ProcLists", spec := "procLists", unfollowed := true, recurses := true, apart := false }
def ProcListsSaid : Prop := procListsRow.holds Try.pinned (OpenSpec.ofChange procListsSpec)

/-- ITS FALSE NEIGHBOUR: 'it returns false'. Refute it at one input. -/
def procListsWrong : ChangeSpec := { name := "procLists", fn := fun _ => fun
  | [d1, d2] => { results := [.lit (.bool false)], args := [d1, d2] }
  | _ => none }
def ProcListsWrongFalsely : Prop := procListsRow.holds Try.pinned (OpenSpec.ofChange procListsWrong)

/-- 'sacristanlaw27.ProcNames': WHATEVER THE INPUT: true; the input reads as it did. -/
def procNamesSpec : ChangeSpec := { name := "procNames", fn := fun _ => fun
  | [] => { results := [.lit (.bool true)], args := [] }
  | _ => none }
def procNamesRow : OpenClaim := { program := "ytecneikblkjgoaa", sum := "ae85438ab9c90861df7f2793051dbf8320661da3ec2c205a56f798e7c2a42586", func := "sacristan/sacristanlaw27.ProcNames", spec := "procNames", unfollowed := true, recurses := true, apart := false }
def ProcNamesSaid : Prop := procNamesRow.holds Try.pinned (OpenSpec.ofChange procNamesSpec)

/-- ITS FALSE NEIGHBOUR: 'it returns false'. Refute it at one input. -/
def procNamesWrong : ChangeSpec := { name := "procNames", fn := fun _ => fun
  | [] => { results := [.lit (.bool false)], args := [] }
  | _ => none }
def ProcNamesWrongFalsely : Prop := procNamesRow.holds Try.pinned (OpenSpec.ofChange procNamesWrong)

/-- 'sacristanlaw27.ProcMatches': WHATEVER THE INPUT: true; the input reads as it did. -/
def procMatchesSpec : ChangeSpec := { name := "procMatches", fn := fun _ => fun
  | [d1, d2, d3] => { results := [.lit (.bool true)], args := [d1, d2, d3] }
  | _ => none }
def procMatchesRow : OpenClaim := { program := "ytecneikblkjgoaa", sum := "ae85438ab9c90861df7f2793051dbf8320661da3ec2c205a56f798e7c2a42586", func := "sacristan/sacristanlaw27.ProcMatches", spec := "procMatches", unfollowed := true, recurses := true, apart := false }
def ProcMatchesSaid : Prop := procMatchesRow.holds Try.pinned (OpenSpec.ofChange procMatchesSpec)

/-- ITS FALSE NEIGHBOUR: 'it returns false'. Refute it at one input. -/
def procMatchesWrong : ChangeSpec := { name := "procMatches", fn := fun _ => fun
  | [d1, d2, d3] => { results := [.lit (.bool false)], args := [d1, d2, d3] }
  | _ => none }
def ProcMatchesWrongFalsely : Prop := procMatchesRow.holds Try.pinned (OpenSpec.ofChange procMatchesWrong)

/- THE SECOND FORM. 'bulk': how many values and letters a reading holds, each counted each time it is reached (what is shared counts as often as it is met; a slice's spare places count too). A statement '..UptoSaid' is the law's where the arguments, and the package variables that the reading takes, are together of bulk at most 1048576: NARROWER than '..Said'. Prove '..Said' where nothing that the law and all that it calls make is longer than what came in: it says more and counts as full. Else prove '..UptoSaid'. A law counts once. -/
mutual
def uptoBulk {H : Type} : DataW H → Nat
  | .lit (.string bytes) => bytes.length + 1
  | .lit _ => 1
  | .nil => 1
  | .ptr d => uptoBulk d + 1
  | .slice elems spare => uptoBulkAll elems + uptoBulkAll spare + 1
  | .agg parts => uptoBulkAll parts + 1
  | .iface _ d => uptoBulk d + 1
  | .map entries => uptoBulkEntries entries + 1
  | .held _ => 1
def uptoBulkAll {H : Type} : List (DataW H) → Nat
  | [] => 0
  | d :: r => uptoBulk d + uptoBulkAll r
def uptoBulkEntries {H : Type} : List (Lit × DataW H) → Nat
  | [] => 0
  | x :: r => uptoBulkEntry x + uptoBulkEntries r
def uptoBulkEntry {H : Type} : Lit × DataW H → Nat
  | (.string bytes, d) => bytes.length + uptoBulk d + 1
  | (_, d) => uptoBulk d + 1
 end
def uptoSmall : (H : Type) → List (DataW H) → Bool := fun _ ds => decide (uptoBulkAll ds ≤ 1048576)
def OpenSpec.upto (s : _root_.Go.ChangeSpec) : _root_.Go.OpenSpec := { _root_.Go.OpenSpec.ofChange s with cond := some uptoSmall }

/-- 'sacristanlaw28.BeatGrows', WHERE WHAT IT READS IS OF BULK AT MOST 1048576: true; the input reads as it did. -/
def beatGrowsUptoRow : OpenClaim := { program := "ytecneikblkjgoaa", sum := "ae85438ab9c90861df7f2793051dbf8320661da3ec2c205a56f798e7c2a42586", func := "sacristan/sacristanlaw28.BeatGrows", spec := "beatGrows", unfollowed := true, recurses := true, apart := false, narrowed := true }
def BeatGrowsUptoSaid : Prop := beatGrowsUptoRow.holds Try.pinned (OpenSpec.upto beatGrowsSpec)

/-- 'sacristanlaw28.BeatShares', WHERE WHAT IT READS IS OF BULK AT MOST 1048576: true; the input reads as it did. -/
def beatSharesUptoRow : OpenClaim := { program := "ytecneikblkjgoaa", sum := "ae85438ab9c90861df7f2793051dbf8320661da3ec2c205a56f798e7c2a42586", func := "sacristan/sacristanlaw28.BeatShares", spec := "beatShares", unfollowed := true, recurses := true, apart := false, narrowed := true }
def BeatSharesUptoSaid : Prop := beatSharesUptoRow.holds Try.pinned (OpenSpec.upto beatSharesSpec)

/-- 'sacristanlaw28.BeatNames', WHERE WHAT IT READS IS OF BULK AT MOST 1048576: true; the input reads as it did. -/
def beatNamesUptoRow : OpenClaim := { program := "ytecneikblkjgoaa", sum := "ae85438ab9c90861df7f2793051dbf8320661da3ec2c205a56f798e7c2a42586", func := "sacristan/sacristanlaw28.BeatNames", spec := "beatNames", unfollowed := true, recurses := true, apart := false, narrowed := true }
def BeatNamesUptoSaid : Prop := beatNamesUptoRow.holds Try.pinned (OpenSpec.upto beatNamesSpec)

/-- 'sacristanlaw28.BeatMatches', WHERE WHAT IT READS IS OF BULK AT MOST 1048576: true; the input reads as it did. -/
def beatMatchesUptoRow : OpenClaim := { program := "ytecneikblkjgoaa", sum := "ae85438ab9c90861df7f2793051dbf8320661da3ec2c205a56f798e7c2a42586", func := "sacristan/sacristanlaw28.BeatMatches", spec := "beatMatches", unfollowed := true, recurses := true, apart := false, narrowed := true }
def BeatMatchesUptoSaid : Prop := beatMatchesUptoRow.holds Try.pinned (OpenSpec.upto beatMatchesSpec)

/-- 'sacristanlaw27.ProcKeeps', WHERE WHAT IT READS IS OF BULK AT MOST 1048576: true; the input reads as it did. -/
def procKeepsUptoRow : OpenClaim := { program := "ytecneikblkjgoaa", sum := "ae85438ab9c90861df7f2793051dbf8320661da3ec2c205a56f798e7c2a42586", func := "sacristan/sacristanlaw27.ProcKeeps", spec := "procKeeps", unfollowed := true, recurses := true, apart := false, narrowed := true }
def ProcKeepsUptoSaid : Prop := procKeepsUptoRow.holds Try.pinned (OpenSpec.upto procKeepsSpec)

/-- 'sacristanlaw27.ProcDead', WHERE WHAT IT READS IS OF BULK AT MOST 1048576: true; the input reads as it did. -/
def procDeadUptoRow : OpenClaim := { program := "ytecneikblkjgoaa", sum := "ae85438ab9c90861df7f2793051dbf8320661da3ec2c205a56f798e7c2a42586", func := "sacristan/sacristanlaw27.ProcDead", spec := "procDead", unfollowed := true, recurses := true, apart := false, narrowed := true }
def ProcDeadUptoSaid : Prop := procDeadUptoRow.holds Try.pinned (OpenSpec.upto procDeadSpec)

/-- 'sacristanlaw27.ProcLists', WHERE WHAT IT READS IS OF BULK AT MOST 1048576: true; the input reads as it did. -/
def procListsUptoRow : OpenClaim := { program := "ytecneikblkjgoaa", sum := "ae85438ab9c90861df7f2793051dbf8320661da3ec2c205a56f798e7c2a42586", func := "sacristan/sacristanlaw27.ProcLists", spec := "procLists", unfollowed := true, recurses := true, apart := false, narrowed := true }
def ProcListsUptoSaid : Prop := procListsUptoRow.holds Try.pinned (OpenSpec.upto procListsSpec)

/-- 'sacristanlaw27.ProcNames', WHERE WHAT IT READS IS OF BULK AT MOST 1048576: true; the input reads as it did. -/
def procNamesUptoRow : OpenClaim := { program := "ytecneikblkjgoaa", sum := "ae85438ab9c90861df7f2793051dbf8320661da3ec2c205a56f798e7c2a42586", func := "sacristan/sacristanlaw27.ProcNames", spec := "procNames", unfollowed := true, recurses := true, apart := false, narrowed := true }
def ProcNamesUptoSaid : Prop := procNamesUptoRow.holds Try.pinned (OpenSpec.upto procNamesSpec)

/-- 'sacristanlaw27.ProcMatches', WHERE WHAT IT READS IS OF BULK AT MOST 1048576: true; the input reads as it did. -/
def procMatchesUptoRow : OpenClaim := { program := "ytecneikblkjgoaa", sum := "ae85438ab9c90861df7f2793051dbf8320661da3ec2c205a56f798e7c2a42586", func := "sacristan/sacristanlaw27.ProcMatches", spec := "procMatches", unfollowed := true, recurses := true, apart := false, narrowed := true }
def ProcMatchesUptoSaid : Prop := procMatchesUptoRow.holds Try.pinned (OpenSpec.upto procMatchesSpec)

end Rows
end Go.Proofs.Ytecneikblkjgoaa
