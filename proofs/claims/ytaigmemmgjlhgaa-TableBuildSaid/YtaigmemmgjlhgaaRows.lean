/-
  No cell of these rows narrows 'for every input' (looked for: loops, veiled, ifaces, maps, wideKeys, modest, calm, conditions, laid).
  DERIVED. THE GIVEN ROWS OF THIS SEAT. 6 by the template 'for every input the law returns true; each argument reads behind the call as it read before'; 0 by the template 'total and deterministic' (their statements: YtaigmemmgjlhgaaTotals.lean).
  GIVEN WITH THE SEED: the statements are not yours to turn. If you find one false, say at which input.
  Laid BY PROGRAM, IN A SANDBOX (cutbox-rows.mjs): the forced cells as the released guide's own fill.sh prints them over the translation 2e3fa455851c959b… (all of the seat's roots in one cut). By AI agents, Wed Nov 11 2026. No macro, syntax, notation, axiom, sorry.
-/
import Derived.Test.YtaigmemmgjlhgaaChecked
import GoSem.Claim
import GoSem.ClaimJoined
import GoSem.ClaimMapViews
import Derived.JoinedTies
import Derived.KernelRfl
namespace Go.Proofs.Ytaigmemmgjlhgaa
/- THE CELL 'sum', in the pinned program and in every row, IS THE sha256 OF THE DUMP (.gsa) THAT YtaigmemmgjlhgaaProg.lean LOADS. Nothing in Lean hashes anything: it is a label: what it is worth is what the hold of that sum in a sandbox is worth. -/
noncomputable def Try.pinned : Pinned := { name := "ytaigmemmgjlhgaa", sum := "2e3fa455851c959bad1bd697c807d5990ea5233155c21fae6db19059384d834a", checked := Try.checked }
namespace Rows
def none {H : Type} : Left H := { results := [], args := [] }

/-- 'freshetlaw12.TableNone': WHATEVER THE INPUT: true; the input reads as it did. -/
def tableNoneSpec : ChangeSpec := { name := "tableNone", fn := fun _ => fun
  | [d1, d2, d3] => { results := [.lit (.bool true)], args := [d1, d2, d3] }
  | _ => none }
def tableNoneRow : OpenClaim := { program := "ytaigmemmgjlhgaa", sum := "2e3fa455851c959bad1bd697c807d5990ea5233155c21fae6db19059384d834a", func := "freshet/freshetlaw12.TableNone", spec := "tableNone", unfollowed := true, recurses := true, apart := false }
def TableNoneSaid : Prop := tableNoneRow.holds Try.pinned (OpenSpec.ofChange tableNoneSpec)

/-- ITS FALSE NEIGHBOUR: 'it returns false'. Refute it at one input. -/
def tableNoneWrong : ChangeSpec := { name := "tableNone", fn := fun _ => fun
  | [d1, d2, d3] => { results := [.lit (.bool false)], args := [d1, d2, d3] }
  | _ => none }
def TableNoneWrongFalsely : Prop := tableNoneRow.holds Try.pinned (OpenSpec.ofChange tableNoneWrong)

/-- 'freshetlaw12.TableBack': WHATEVER THE INPUT: true; the input reads as it did. -/
def tableBackSpec : ChangeSpec := { name := "tableBack", fn := fun _ => fun
  | [d1, d2, d3, d4] => { results := [.lit (.bool true)], args := [d1, d2, d3, d4] }
  | _ => none }
def tableBackRow : OpenClaim := { program := "ytaigmemmgjlhgaa", sum := "2e3fa455851c959bad1bd697c807d5990ea5233155c21fae6db19059384d834a", func := "freshet/freshetlaw12.TableBack", spec := "tableBack", unfollowed := true, recurses := true, apart := false }
def TableBackSaid : Prop := tableBackRow.holds Try.pinned (OpenSpec.ofChange tableBackSpec)

/-- ITS FALSE NEIGHBOUR: 'it returns false'. Refute it at one input. -/
def tableBackWrong : ChangeSpec := { name := "tableBack", fn := fun _ => fun
  | [d1, d2, d3, d4] => { results := [.lit (.bool false)], args := [d1, d2, d3, d4] }
  | _ => none }
def TableBackWrongFalsely : Prop := tableBackRow.holds Try.pinned (OpenSpec.ofChange tableBackWrong)

/-- 'freshetlaw12.TableBuild': WHATEVER THE INPUT: true; the input reads as it did. -/
def tableBuildSpec : ChangeSpec := { name := "tableBuild", fn := fun _ => fun
  | [d1, d2] => { results := [.lit (.bool true)], args := [d1, d2] }
  | _ => none }
def tableBuildRow : OpenClaim := { program := "ytaigmemmgjlhgaa", sum := "2e3fa455851c959bad1bd697c807d5990ea5233155c21fae6db19059384d834a", func := "freshet/freshetlaw12.TableBuild", spec := "tableBuild", unfollowed := true, recurses := true, apart := false }
def TableBuildSaid : Prop := tableBuildRow.holds Try.pinned (OpenSpec.ofChange tableBuildSpec)

/-- ITS FALSE NEIGHBOUR: 'it returns false'. Refute it at one input. -/
def tableBuildWrong : ChangeSpec := { name := "tableBuild", fn := fun _ => fun
  | [d1, d2] => { results := [.lit (.bool false)], args := [d1, d2] }
  | _ => none }
def TableBuildWrongFalsely : Prop := tableBuildRow.holds Try.pinned (OpenSpec.ofChange tableBuildWrong)

/-- 'freshetlaw12.TableDamage': WHATEVER THE INPUT: true; the input reads as it did. -/
def tableDamageSpec : ChangeSpec := { name := "tableDamage", fn := fun _ => fun
  | [d1, d2, d3, d4, d5] => { results := [.lit (.bool true)], args := [d1, d2, d3, d4, d5] }
  | _ => none }
def tableDamageRow : OpenClaim := { program := "ytaigmemmgjlhgaa", sum := "2e3fa455851c959bad1bd697c807d5990ea5233155c21fae6db19059384d834a", func := "freshet/freshetlaw12.TableDamage", spec := "tableDamage", unfollowed := true, recurses := true, apart := false }
def TableDamageSaid : Prop := tableDamageRow.holds Try.pinned (OpenSpec.ofChange tableDamageSpec)

/-- ITS FALSE NEIGHBOUR: 'it returns false'. Refute it at one input. -/
def tableDamageWrong : ChangeSpec := { name := "tableDamage", fn := fun _ => fun
  | [d1, d2, d3, d4, d5] => { results := [.lit (.bool false)], args := [d1, d2, d3, d4, d5] }
  | _ => none }
def TableDamageWrongFalsely : Prop := tableDamageRow.holds Try.pinned (OpenSpec.ofChange tableDamageWrong)

/-- 'freshetlaw12.TableAlike': WHATEVER THE INPUT: true; the input reads as it did. -/
def tableAlikeSpec : ChangeSpec := { name := "tableAlike", fn := fun _ => fun
  | [d1, d2, d3, d4, d5] => { results := [.lit (.bool true)], args := [d1, d2, d3, d4, d5] }
  | _ => none }
def tableAlikeRow : OpenClaim := { program := "ytaigmemmgjlhgaa", sum := "2e3fa455851c959bad1bd697c807d5990ea5233155c21fae6db19059384d834a", func := "freshet/freshetlaw12.TableAlike", spec := "tableAlike", unfollowed := true, recurses := true, apart := false }
def TableAlikeSaid : Prop := tableAlikeRow.holds Try.pinned (OpenSpec.ofChange tableAlikeSpec)

/-- ITS FALSE NEIGHBOUR: 'it returns false'. Refute it at one input. -/
def tableAlikeWrong : ChangeSpec := { name := "tableAlike", fn := fun _ => fun
  | [d1, d2, d3, d4, d5] => { results := [.lit (.bool false)], args := [d1, d2, d3, d4, d5] }
  | _ => none }
def TableAlikeWrongFalsely : Prop := tableAlikeRow.holds Try.pinned (OpenSpec.ofChange tableAlikeWrong)

/-- 'freshetlaw12.TableParts': WHATEVER THE INPUT: true; the input reads as it did. -/
def tablePartsSpec : ChangeSpec := { name := "tableParts", fn := fun _ => fun
  | [d1, d2, d3, d4, d5, d6] => { results := [.lit (.bool true)], args := [d1, d2, d3, d4, d5, d6] }
  | _ => none }
def tablePartsRow : OpenClaim := { program := "ytaigmemmgjlhgaa", sum := "2e3fa455851c959bad1bd697c807d5990ea5233155c21fae6db19059384d834a", func := "freshet/freshetlaw12.TableParts", spec := "tableParts", unfollowed := true, recurses := true, apart := false }
def TablePartsSaid : Prop := tablePartsRow.holds Try.pinned (OpenSpec.ofChange tablePartsSpec)

/-- ITS FALSE NEIGHBOUR: 'it returns false'. Refute it at one input. -/
def tablePartsWrong : ChangeSpec := { name := "tableParts", fn := fun _ => fun
  | [d1, d2, d3, d4, d5, d6] => { results := [.lit (.bool false)], args := [d1, d2, d3, d4, d5, d6] }
  | _ => none }
def TablePartsWrongFalsely : Prop := tablePartsRow.holds Try.pinned (OpenSpec.ofChange tablePartsWrong)

/- THE SECOND FORM. 'bulk': how many values and letters a reading holds, each counted each time it is reached (what is shared counts as often as it is met; a slice's spare places count too). A statement '..UptoSaid' is the law's where the arguments, and the package variables that the reading takes, are together of bulk at most 1048576: NARROWER than '..Said'. Prove '..Said' where nothing that the law and all that it calls make is longer than what came in: it says more and counts as full. Else prove '..UptoSaid'. A law counts once. -/
mutual
def uptoBulk {H : Type} : DataW H → Nat
  | .lit (.string bytes) => bytes.length + 1
  | .lit _ => 1
  | .nil => 1
  | .ptr d => uptoBulk d + 1
  | .slice elems spare => uptoBulkAll elems + uptoBulkAll spare + 1
  | .agg parts => uptoBulkAll parts + 1
  | .iface _ d => uptoBulk d + 1
  | .map entries => uptoBulkEntries entries + 1
  | .held _ => 1
def uptoBulkAll {H : Type} : List (DataW H) → Nat
  | [] => 0
  | d :: r => uptoBulk d + uptoBulkAll r
def uptoBulkEntries {H : Type} : List (Lit × DataW H) → Nat
  | [] => 0
  | x :: r => uptoBulkEntry x + uptoBulkEntries r
def uptoBulkEntry {H : Type} : Lit × DataW H → Nat
  | (.string bytes, d) => bytes.length + uptoBulk d + 1
  | (_, d) => uptoBulk d + 1
 end
def uptoSmall : (H : Type) → List (DataW H) → Bool := fun _ ds => decide (uptoBulkAll ds ≤ 1048576)
def OpenSpec.upto (s : _root_.Go.ChangeSpec) : _root_.Go.OpenSpec := { _root_.Go.OpenSpec.ofChange s with cond := some uptoSmall }

/-- 'freshetlaw12.TableNone', WHERE WHAT IT READS IS OF BULK AT MOST 1048576: true; the input reads as it did. -/
def tableNoneUptoRow : OpenClaim := { program := "ytaigmemmgjlhgaa", sum := "2e3fa455851c959bad1bd697c807d5990ea5233155c21fae6db19059384d834a", func := "freshet/freshetlaw12.TableNone", spec := "tableNone", unfollowed := true, recurses := true, apart := false, narrowed := true }
def TableNoneUptoSaid : Prop := tableNoneUptoRow.holds Try.pinned (OpenSpec.upto tableNoneSpec)

/-- 'freshetlaw12.TableBack', WHERE WHAT IT READS IS OF BULK AT MOST 1048576: true; the input reads as it did. -/
def tableBackUptoRow : OpenClaim := { program := "ytaigmemmgjlhgaa", sum := "2e3fa455851c959bad1bd697c807d5990ea5233155c21fae6db19059384d834a", func := "freshet/freshetlaw12.TableBack", spec := "tableBack", unfollowed := true, recurses := true, apart := false, narrowed := true }
def TableBackUptoSaid : Prop := tableBackUptoRow.holds Try.pinned (OpenSpec.upto tableBackSpec)

/-- 'freshetlaw12.TableBuild', WHERE WHAT IT READS IS OF BULK AT MOST 1048576: true; the input reads as it did. -/
def tableBuildUptoRow : OpenClaim := { program := "ytaigmemmgjlhgaa", sum := "2e3fa455851c959bad1bd697c807d5990ea5233155c21fae6db19059384d834a", func := "freshet/freshetlaw12.TableBuild", spec := "tableBuild", unfollowed := true, recurses := true, apart := false, narrowed := true }
def TableBuildUptoSaid : Prop := tableBuildUptoRow.holds Try.pinned (OpenSpec.upto tableBuildSpec)

/-- 'freshetlaw12.TableDamage', WHERE WHAT IT READS IS OF BULK AT MOST 1048576: true; the input reads as it did. -/
def tableDamageUptoRow : OpenClaim := { program := "ytaigmemmgjlhgaa", sum := "2e3fa455851c959bad1bd697c807d5990ea5233155c21fae6db19059384d834a", func := "freshet/freshetlaw12.TableDamage", spec := "tableDamage", unfollowed := true, recurses := true, apart := false, narrowed := true }
def TableDamageUptoSaid : Prop := tableDamageUptoRow.holds Try.pinned (OpenSpec.upto tableDamageSpec)

/-- 'freshetlaw12.TableAlike', WHERE WHAT IT READS IS OF BULK AT MOST 1048576: true; the input reads as it did. -/
def tableAlikeUptoRow : OpenClaim := { program := "ytaigmemmgjlhgaa", sum := "2e3fa455851c959bad1bd697c807d5990ea5233155c21fae6db19059384d834a", func := "freshet/freshetlaw12.TableAlike", spec := "tableAlike", unfollowed := true, recurses := true, apart := false, narrowed := true }
def TableAlikeUptoSaid : Prop := tableAlikeUptoRow.holds Try.pinned (OpenSpec.upto tableAlikeSpec)

/-- 'freshetlaw12.TableParts', WHERE WHAT IT READS IS OF BULK AT MOST 1048576: true; the input reads as it did. -/
def tablePartsUptoRow : OpenClaim := { program := "ytaigmemmgjlhgaa", sum := "2e3fa455851c959bad1bd697c807d5990ea5233155c21fae6db19059384d834a", func := "freshet/freshetlaw12.TableParts", spec := "tableParts", unfollowed := true, recurses := true, apart := false, narrowed := true }
def TablePartsUptoSaid : Prop := tablePartsUptoRow.holds Try.pinned (OpenSpec.upto tablePartsSpec)

end Rows
end Go.Proofs.Ytaigmemmgjlhgaa
