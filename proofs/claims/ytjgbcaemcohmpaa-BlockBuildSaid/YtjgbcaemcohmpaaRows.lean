/-
  No cell of these rows narrows 'for every input' (looked for: loops, veiled, ifaces, maps, wideKeys, modest, calm, conditions, laid).
  DERIVED. THE GIVEN ROWS OF THIS SEAT. 7 by the template 'for every input the law returns true; each argument reads behind the call as it read before'; 0 by the template 'total and deterministic' (their statements: YtjgbcaemcohmpaaTotals.lean).
  GIVEN WITH THE SEED: the statements are not yours to turn. If you find one false, say at which input.
  Laid BY PROGRAM, IN A SANDBOX (cutbox-rows.mjs): the forced cells as the released guide's own fill.sh prints them over the translation 4e791ecafd5047cc… (all of the seat's roots in one cut). By AI agents, Wed Nov 11 2026. No macro, syntax, notation, axiom, sorry.
-/
import Derived.Test.YtjgbcaemcohmpaaChecked
import GoSem.Claim
import GoSem.ClaimJoined
import GoSem.ClaimMapViews
import Derived.JoinedTies
import Derived.KernelRfl
namespace Go.Proofs.Ytjgbcaemcohmpaa
/- THE CELL 'sum', in the pinned program and in every row, IS THE sha256 OF THE DUMP (.gsa) THAT YtjgbcaemcohmpaaProg.lean LOADS. Nothing in Lean hashes anything: it is a label: what it is worth is what the hold of that sum in a sandbox is worth. -/
noncomputable def Try.pinned : Pinned := { name := "ytjgbcaemcohmpaa", sum := "4e791ecafd5047ccf544d2593627a075692359ddb8bb38a1c69b669cb6eb5b5e", checked := Try.checked }
namespace Rows
def none {H : Type} : Left H := { results := [], args := [] }

/-- 'freshetlaw11.BlockBuild': WHATEVER THE INPUT: true; the input reads as it did. -/
def blockBuildSpec : ChangeSpec := { name := "blockBuild", fn := fun _ => fun
  | [d1, d2] => { results := [.lit (.bool true)], args := [d1, d2] }
  | _ => none }
def blockBuildRow : OpenClaim := { program := "ytjgbcaemcohmpaa", sum := "4e791ecafd5047ccf544d2593627a075692359ddb8bb38a1c69b669cb6eb5b5e", func := "freshet/freshetlaw11.BlockBuild", spec := "blockBuild", unfollowed := true, recurses := true, apart := false }
def BlockBuildSaid : Prop := blockBuildRow.holds Try.pinned (OpenSpec.ofChange blockBuildSpec)

/-- ITS FALSE NEIGHBOUR: 'it returns false'. Refute it at one input. -/
def blockBuildWrong : ChangeSpec := { name := "blockBuild", fn := fun _ => fun
  | [d1, d2] => { results := [.lit (.bool false)], args := [d1, d2] }
  | _ => none }
def BlockBuildWrongFalsely : Prop := blockBuildRow.holds Try.pinned (OpenSpec.ofChange blockBuildWrong)

/-- 'freshetlaw11.BlockRows': WHATEVER THE INPUT: true; the input reads as it did. -/
def blockRowsSpec : ChangeSpec := { name := "blockRows", fn := fun _ => fun
  | [d] => { results := [.lit (.bool true)], args := [d] }
  | _ => none }
def blockRowsRow : OpenClaim := { program := "ytjgbcaemcohmpaa", sum := "4e791ecafd5047ccf544d2593627a075692359ddb8bb38a1c69b669cb6eb5b5e", func := "freshet/freshetlaw11.BlockRows", spec := "blockRows", unfollowed := true, recurses := true, apart := false }
def BlockRowsSaid : Prop := blockRowsRow.holds Try.pinned (OpenSpec.ofChange blockRowsSpec)

/-- ITS FALSE NEIGHBOUR: 'it returns false'. Refute it at one input. -/
def blockRowsWrong : ChangeSpec := { name := "blockRows", fn := fun _ => fun
  | [d] => { results := [.lit (.bool false)], args := [d] }
  | _ => none }
def BlockRowsWrongFalsely : Prop := blockRowsRow.holds Try.pinned (OpenSpec.ofChange blockRowsWrong)

/-- 'freshetlaw11.BlockOnly': WHATEVER THE INPUT: true; the input reads as it did. -/
def blockOnlySpec : ChangeSpec := { name := "blockOnly", fn := fun _ => fun
  | [d] => { results := [.lit (.bool true)], args := [d] }
  | _ => none }
def blockOnlyRow : OpenClaim := { program := "ytjgbcaemcohmpaa", sum := "4e791ecafd5047ccf544d2593627a075692359ddb8bb38a1c69b669cb6eb5b5e", func := "freshet/freshetlaw11.BlockOnly", spec := "blockOnly", unfollowed := true, recurses := true, apart := false }
def BlockOnlySaid : Prop := blockOnlyRow.holds Try.pinned (OpenSpec.ofChange blockOnlySpec)

/-- ITS FALSE NEIGHBOUR: 'it returns false'. Refute it at one input. -/
def blockOnlyWrong : ChangeSpec := { name := "blockOnly", fn := fun _ => fun
  | [d] => { results := [.lit (.bool false)], args := [d] }
  | _ => none }
def BlockOnlyWrongFalsely : Prop := blockOnlyRow.holds Try.pinned (OpenSpec.ofChange blockOnlyWrong)

/-- 'freshetlaw11.BlockGrows': WHATEVER THE INPUT: true; the input reads as it did. -/
def blockGrowsSpec : ChangeSpec := { name := "blockGrows", fn := fun _ => fun
  | [d1, d2, d3] => { results := [.lit (.bool true)], args := [d1, d2, d3] }
  | _ => none }
def blockGrowsRow : OpenClaim := { program := "ytjgbcaemcohmpaa", sum := "4e791ecafd5047ccf544d2593627a075692359ddb8bb38a1c69b669cb6eb5b5e", func := "freshet/freshetlaw11.BlockGrows", spec := "blockGrows", unfollowed := true, recurses := true, apart := false }
def BlockGrowsSaid : Prop := blockGrowsRow.holds Try.pinned (OpenSpec.ofChange blockGrowsSpec)

/-- ITS FALSE NEIGHBOUR: 'it returns false'. Refute it at one input. -/
def blockGrowsWrong : ChangeSpec := { name := "blockGrows", fn := fun _ => fun
  | [d1, d2, d3] => { results := [.lit (.bool false)], args := [d1, d2, d3] }
  | _ => none }
def BlockGrowsWrongFalsely : Prop := blockGrowsRow.holds Try.pinned (OpenSpec.ofChange blockGrowsWrong)

/-- 'freshetlaw11.BlockSeek': WHATEVER THE INPUT: true; the input reads as it did. -/
def blockSeekSpec : ChangeSpec := { name := "blockSeek", fn := fun _ => fun
  | [d1, d2, d3] => { results := [.lit (.bool true)], args := [d1, d2, d3] }
  | _ => none }
def blockSeekRow : OpenClaim := { program := "ytjgbcaemcohmpaa", sum := "4e791ecafd5047ccf544d2593627a075692359ddb8bb38a1c69b669cb6eb5b5e", func := "freshet/freshetlaw11.BlockSeek", spec := "blockSeek", unfollowed := true, recurses := true, apart := false }
def BlockSeekSaid : Prop := blockSeekRow.holds Try.pinned (OpenSpec.ofChange blockSeekSpec)

/-- ITS FALSE NEIGHBOUR: 'it returns false'. Refute it at one input. -/
def blockSeekWrong : ChangeSpec := { name := "blockSeek", fn := fun _ => fun
  | [d1, d2, d3] => { results := [.lit (.bool false)], args := [d1, d2, d3] }
  | _ => none }
def BlockSeekWrongFalsely : Prop := blockSeekRow.holds Try.pinned (OpenSpec.ofChange blockSeekWrong)

/-- 'freshetlaw11.BlockBack': WHATEVER THE INPUT: true; the input reads as it did. -/
def blockBackSpec : ChangeSpec := { name := "blockBack", fn := fun _ => fun
  | [d1, d2, d3, d4, d5] => { results := [.lit (.bool true)], args := [d1, d2, d3, d4, d5] }
  | _ => none }
def blockBackRow : OpenClaim := { program := "ytjgbcaemcohmpaa", sum := "4e791ecafd5047ccf544d2593627a075692359ddb8bb38a1c69b669cb6eb5b5e", func := "freshet/freshetlaw11.BlockBack", spec := "blockBack", unfollowed := true, recurses := true, apart := false }
def BlockBackSaid : Prop := blockBackRow.holds Try.pinned (OpenSpec.ofChange blockBackSpec)

/-- ITS FALSE NEIGHBOUR: 'it returns false'. Refute it at one input. -/
def blockBackWrong : ChangeSpec := { name := "blockBack", fn := fun _ => fun
  | [d1, d2, d3, d4, d5] => { results := [.lit (.bool false)], args := [d1, d2, d3, d4, d5] }
  | _ => none }
def BlockBackWrongFalsely : Prop := blockBackRow.holds Try.pinned (OpenSpec.ofChange blockBackWrong)

/-- 'freshetlaw11.BlockEach': WHATEVER THE INPUT: true; the input reads as it did. -/
def blockEachSpec : ChangeSpec := { name := "blockEach", fn := fun _ => fun
  | [d1, d2] => { results := [.lit (.bool true)], args := [d1, d2] }
  | _ => none }
def blockEachRow : OpenClaim := { program := "ytjgbcaemcohmpaa", sum := "4e791ecafd5047ccf544d2593627a075692359ddb8bb38a1c69b669cb6eb5b5e", func := "freshet/freshetlaw11.BlockEach", spec := "blockEach", unfollowed := true, recurses := true, apart := false }
def BlockEachSaid : Prop := blockEachRow.holds Try.pinned (OpenSpec.ofChange blockEachSpec)

/-- ITS FALSE NEIGHBOUR: 'it returns false'. Refute it at one input. -/
def blockEachWrong : ChangeSpec := { name := "blockEach", fn := fun _ => fun
  | [d1, d2] => { results := [.lit (.bool false)], args := [d1, d2] }
  | _ => none }
def BlockEachWrongFalsely : Prop := blockEachRow.holds Try.pinned (OpenSpec.ofChange blockEachWrong)

/- THE SECOND FORM. 'bulk': how many values and letters a reading holds, each counted each time it is reached (what is shared counts as often as it is met; a slice's spare places count too). A statement '..UptoSaid' is the law's where the arguments, and the package variables that the reading takes, are together of bulk at most 1048576: NARROWER than '..Said'. Prove '..Said' where nothing that the law and all that it calls make is longer than what came in: it says more and counts as full. Else prove '..UptoSaid'. A law counts once. -/
mutual
def uptoBulk {H : Type} : DataW H → Nat
  | .lit (.string bytes) => bytes.length + 1
  | .lit _ => 1
  | .nil => 1
  | .ptr d => uptoBulk d + 1
  | .slice elems spare => uptoBulkAll elems + uptoBulkAll spare + 1
  | .agg parts => uptoBulkAll parts + 1
  | .iface _ d => uptoBulk d + 1
  | .map entries => uptoBulkEntries entries + 1
  | .held _ => 1
def uptoBulkAll {H : Type} : List (DataW H) → Nat
  | [] => 0
  | d :: r => uptoBulk d + uptoBulkAll r
def uptoBulkEntries {H : Type} : List (Lit × DataW H) → Nat
  | [] => 0
  | x :: r => uptoBulkEntry x + uptoBulkEntries r
def uptoBulkEntry {H : Type} : Lit × DataW H → Nat
  | (.string bytes, d) => bytes.length + uptoBulk d + 1
  | (_, d) => uptoBulk d + 1
 end
def uptoSmall : (H : Type) → List (DataW H) → Bool := fun _ ds => decide (uptoBulkAll ds ≤ 1048576)
def OpenSpec.upto (s : _root_.Go.ChangeSpec) : _root_.Go.OpenSpec := { _root_.Go.OpenSpec.ofChange s with cond := some uptoSmall }

/-- 'freshetlaw11.BlockBuild', WHERE WHAT IT READS IS OF BULK AT MOST 1048576: true; the input reads as it did. -/
def blockBuildUptoRow : OpenClaim := { program := "ytjgbcaemcohmpaa", sum := "4e791ecafd5047ccf544d2593627a075692359ddb8bb38a1c69b669cb6eb5b5e", func := "freshet/freshetlaw11.BlockBuild", spec := "blockBuild", unfollowed := true, recurses := true, apart := false, narrowed := true }
def BlockBuildUptoSaid : Prop := blockBuildUptoRow.holds Try.pinned (OpenSpec.upto blockBuildSpec)

/-- 'freshetlaw11.BlockRows', WHERE WHAT IT READS IS OF BULK AT MOST 1048576: true; the input reads as it did. -/
def blockRowsUptoRow : OpenClaim := { program := "ytjgbcaemcohmpaa", sum := "4e791ecafd5047ccf544d2593627a075692359ddb8bb38a1c69b669cb6eb5b5e", func := "freshet/freshetlaw11.BlockRows", spec := "blockRows", unfollowed := true, recurses := true, apart := false, narrowed := true }
def BlockRowsUptoSaid : Prop := blockRowsUptoRow.holds Try.pinned (OpenSpec.upto blockRowsSpec)

/-- 'freshetlaw11.BlockOnly', WHERE WHAT IT READS IS OF BULK AT MOST 1048576: true; the input reads as it did. -/
def blockOnlyUptoRow : OpenClaim := { program := "ytjgbcaemcohmpaa", sum := "4e791ecafd5047ccf544d2593627a075692359ddb8bb38a1c69b669cb6eb5b5e", func := "freshet/freshetlaw11.BlockOnly", spec := "blockOnly", unfollowed := true, recurses := true, apart := false, narrowed := true }
def BlockOnlyUptoSaid : Prop := blockOnlyUptoRow.holds Try.pinned (OpenSpec.upto blockOnlySpec)

/-- 'freshetlaw11.BlockGrows', WHERE WHAT IT READS IS OF BULK AT MOST 1048576: true; the input reads as it did. -/
def blockGrowsUptoRow : OpenClaim := { program := "ytjgbcaemcohmpaa", sum := "4e791ecafd5047ccf544d2593627a075692359ddb8bb38a1c69b669cb6eb5b5e", func := "freshet/freshetlaw11.BlockGrows", spec := "blockGrows", unfollowed := true, recurses := true, apart := false, narrowed := true }
def BlockGrowsUptoSaid : Prop := blockGrowsUptoRow.holds Try.pinned (OpenSpec.upto blockGrowsSpec)

/-- 'freshetlaw11.BlockSeek', WHERE WHAT IT READS IS OF BULK AT MOST 1048576: true; the input reads as it did. -/
def blockSeekUptoRow : OpenClaim := { program := "ytjgbcaemcohmpaa", sum := "4e791ecafd5047ccf544d2593627a075692359ddb8bb38a1c69b669cb6eb5b5e", func := "freshet/freshetlaw11.BlockSeek", spec := "blockSeek", unfollowed := true, recurses := true, apart := false, narrowed := true }
def BlockSeekUptoSaid : Prop := blockSeekUptoRow.holds Try.pinned (OpenSpec.upto blockSeekSpec)

/-- 'freshetlaw11.BlockBack', WHERE WHAT IT READS IS OF BULK AT MOST 1048576: true; the input reads as it did. -/
def blockBackUptoRow : OpenClaim := { program := "ytjgbcaemcohmpaa", sum := "4e791ecafd5047ccf544d2593627a075692359ddb8bb38a1c69b669cb6eb5b5e", func := "freshet/freshetlaw11.BlockBack", spec := "blockBack", unfollowed := true, recurses := true, apart := false, narrowed := true }
def BlockBackUptoSaid : Prop := blockBackUptoRow.holds Try.pinned (OpenSpec.upto blockBackSpec)

/-- 'freshetlaw11.BlockEach', WHERE WHAT IT READS IS OF BULK AT MOST 1048576: true; the input reads as it did. -/
def blockEachUptoRow : OpenClaim := { program := "ytjgbcaemcohmpaa", sum := "4e791ecafd5047ccf544d2593627a075692359ddb8bb38a1c69b669cb6eb5b5e", func := "freshet/freshetlaw11.BlockEach", spec := "blockEach", unfollowed := true, recurses := true, apart := false, narrowed := true }
def BlockEachUptoSaid : Prop := blockEachUptoRow.holds Try.pinned (OpenSpec.upto blockEachSpec)

end Rows
end Go.Proofs.Ytjgbcaemcohmpaa
