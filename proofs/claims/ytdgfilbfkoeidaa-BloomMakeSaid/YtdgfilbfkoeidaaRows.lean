/-
  No cell of these rows narrows 'for every input' (looked for: loops, veiled, ifaces, maps, wideKeys, modest, calm, conditions, laid).
  DERIVED. THE GIVEN ROWS OF THIS SEAT. 6 by the template 'for every input the law returns true; each argument reads behind the call as it read before'; 0 by the template 'total and deterministic' (their statements: YtdgfilbfkoeidaaTotals.lean).
  GIVEN WITH THE SEED: the statements are not yours to turn. If you find one false, say at which input.
  Laid BY PROGRAM, IN A SANDBOX (cutbox-rows.mjs): the forced cells as the released guide's own fill.sh prints them over the translation be5b0a6432eacbf4… (all of the seat's roots in one cut). By AI agents, Wed Nov 11 2026. No macro, syntax, notation, axiom, sorry.
-/
import Derived.Test.YtdgfilbfkoeidaaChecked
import GoSem.Claim
import GoSem.ClaimJoined
import GoSem.ClaimMapViews
import Derived.JoinedTies
import Derived.KernelRfl
namespace Go.Proofs.Ytdgfilbfkoeidaa
/- THE CELL 'sum', in the pinned program and in every row, IS THE sha256 OF THE DUMP (.gsa) THAT YtdgfilbfkoeidaaProg.lean LOADS. Nothing in Lean hashes anything: it is a label: what it is worth is what the hold of that sum in a sandbox is worth. -/
noncomputable def Try.pinned : Pinned := { name := "ytdgfilbfkoeidaa", sum := "be5b0a6432eacbf445e60689b98fe2a8860e44e44855e7313d19b21544d2d8bd", checked := Try.checked }
namespace Rows
def none {H : Type} : Left H := { results := [], args := [] }

/-- 'freshetlaw10.BloomMake': WHATEVER THE INPUT: true; the input reads as it did. -/
def bloomMakeSpec : ChangeSpec := { name := "bloomMake", fn := fun _ => fun
  | [d1, d2] => { results := [.lit (.bool true)], args := [d1, d2] }
  | _ => none }
def bloomMakeRow : OpenClaim := { program := "ytdgfilbfkoeidaa", sum := "be5b0a6432eacbf445e60689b98fe2a8860e44e44855e7313d19b21544d2d8bd", func := "freshet/freshetlaw10.BloomMake", spec := "bloomMake", unfollowed := true, recurses := true, apart := false }
def BloomMakeSaid : Prop := bloomMakeRow.holds Try.pinned (OpenSpec.ofChange bloomMakeSpec)

/-- ITS FALSE NEIGHBOUR: 'it returns false'. Refute it at one input. -/
def bloomMakeWrong : ChangeSpec := { name := "bloomMake", fn := fun _ => fun
  | [d1, d2] => { results := [.lit (.bool false)], args := [d1, d2] }
  | _ => none }
def BloomMakeWrongFalsely : Prop := bloomMakeRow.holds Try.pinned (OpenSpec.ofChange bloomMakeWrong)

/-- 'freshetlaw10.BloomTurned': WHATEVER THE INPUT: true; the input reads as it did. -/
def bloomTurnedSpec : ChangeSpec := { name := "bloomTurned", fn := fun _ => fun
  | [d1, d2, d3] => { results := [.lit (.bool true)], args := [d1, d2, d3] }
  | _ => none }
def bloomTurnedRow : OpenClaim := { program := "ytdgfilbfkoeidaa", sum := "be5b0a6432eacbf445e60689b98fe2a8860e44e44855e7313d19b21544d2d8bd", func := "freshet/freshetlaw10.BloomTurned", spec := "bloomTurned", unfollowed := true, recurses := true, apart := false }
def BloomTurnedSaid : Prop := bloomTurnedRow.holds Try.pinned (OpenSpec.ofChange bloomTurnedSpec)

/-- ITS FALSE NEIGHBOUR: 'it returns false'. Refute it at one input. -/
def bloomTurnedWrong : ChangeSpec := { name := "bloomTurned", fn := fun _ => fun
  | [d1, d2, d3] => { results := [.lit (.bool false)], args := [d1, d2, d3] }
  | _ => none }
def BloomTurnedWrongFalsely : Prop := bloomTurnedRow.holds Try.pinned (OpenSpec.ofChange bloomTurnedWrong)

/-- 'freshetlaw10.BloomSize': WHATEVER THE INPUT: true; the input reads as it did. -/
def bloomSizeSpec : ChangeSpec := { name := "bloomSize", fn := fun _ => fun
  | [d1, d2] => { results := [.lit (.bool true)], args := [d1, d2] }
  | _ => none }
def bloomSizeRow : OpenClaim := { program := "ytdgfilbfkoeidaa", sum := "be5b0a6432eacbf445e60689b98fe2a8860e44e44855e7313d19b21544d2d8bd", func := "freshet/freshetlaw10.BloomSize", spec := "bloomSize", unfollowed := true, recurses := true, apart := false }
def BloomSizeSaid : Prop := bloomSizeRow.holds Try.pinned (OpenSpec.ofChange bloomSizeSpec)

/-- ITS FALSE NEIGHBOUR: 'it returns false'. Refute it at one input. -/
def bloomSizeWrong : ChangeSpec := { name := "bloomSize", fn := fun _ => fun
  | [d1, d2] => { results := [.lit (.bool false)], args := [d1, d2] }
  | _ => none }
def BloomSizeWrongFalsely : Prop := bloomSizeRow.holds Try.pinned (OpenSpec.ofChange bloomSizeWrong)

/-- 'freshetlaw10.BloomHas': WHATEVER THE INPUT: true; the input reads as it did. -/
def bloomHasSpec : ChangeSpec := { name := "bloomHas", fn := fun _ => fun
  | [d1, d2] => { results := [.lit (.bool true)], args := [d1, d2] }
  | _ => none }
def bloomHasRow : OpenClaim := { program := "ytdgfilbfkoeidaa", sum := "be5b0a6432eacbf445e60689b98fe2a8860e44e44855e7313d19b21544d2d8bd", func := "freshet/freshetlaw10.BloomHas", spec := "bloomHas", unfollowed := true, recurses := true, apart := false }
def BloomHasSaid : Prop := bloomHasRow.holds Try.pinned (OpenSpec.ofChange bloomHasSpec)

/-- ITS FALSE NEIGHBOUR: 'it returns false'. Refute it at one input. -/
def bloomHasWrong : ChangeSpec := { name := "bloomHas", fn := fun _ => fun
  | [d1, d2] => { results := [.lit (.bool false)], args := [d1, d2] }
  | _ => none }
def BloomHasWrongFalsely : Prop := bloomHasRow.holds Try.pinned (OpenSpec.ofChange bloomHasWrong)

/-- 'freshetlaw10.BloomAll': WHATEVER THE INPUT: true; the input reads as it did. -/
def bloomAllSpec : ChangeSpec := { name := "bloomAll", fn := fun _ => fun
  | [d1, d2] => { results := [.lit (.bool true)], args := [d1, d2] }
  | _ => none }
def bloomAllRow : OpenClaim := { program := "ytdgfilbfkoeidaa", sum := "be5b0a6432eacbf445e60689b98fe2a8860e44e44855e7313d19b21544d2d8bd", func := "freshet/freshetlaw10.BloomAll", spec := "bloomAll", unfollowed := true, recurses := true, apart := false }
def BloomAllSaid : Prop := bloomAllRow.holds Try.pinned (OpenSpec.ofChange bloomAllSpec)

/-- ITS FALSE NEIGHBOUR: 'it returns false'. Refute it at one input. -/
def bloomAllWrong : ChangeSpec := { name := "bloomAll", fn := fun _ => fun
  | [d1, d2] => { results := [.lit (.bool false)], args := [d1, d2] }
  | _ => none }
def BloomAllWrongFalsely : Prop := bloomAllRow.holds Try.pinned (OpenSpec.ofChange bloomAllWrong)

/-- 'freshetlaw10.BloomFull': WHATEVER THE INPUT: true; the input reads as it did. -/
def bloomFullSpec : ChangeSpec := { name := "bloomFull", fn := fun _ => fun
  | [d1, d2, d3] => { results := [.lit (.bool true)], args := [d1, d2, d3] }
  | _ => none }
def bloomFullRow : OpenClaim := { program := "ytdgfilbfkoeidaa", sum := "be5b0a6432eacbf445e60689b98fe2a8860e44e44855e7313d19b21544d2d8bd", func := "freshet/freshetlaw10.BloomFull", spec := "bloomFull", unfollowed := true, recurses := true, apart := false }
def BloomFullSaid : Prop := bloomFullRow.holds Try.pinned (OpenSpec.ofChange bloomFullSpec)

/-- ITS FALSE NEIGHBOUR: 'it returns false'. Refute it at one input. -/
def bloomFullWrong : ChangeSpec := { name := "bloomFull", fn := fun _ => fun
  | [d1, d2, d3] => { results := [.lit (.bool false)], args := [d1, d2, d3] }
  | _ => none }
def BloomFullWrongFalsely : Prop := bloomFullRow.holds Try.pinned (OpenSpec.ofChange bloomFullWrong)

/- THE SECOND FORM. 'bulk': how many values and letters a reading holds, each counted each time it is reached (what is shared counts as often as it is met; a slice's spare places count too). A statement '..UptoSaid' is the law's where the arguments, and the package variables that the reading takes, are together of bulk at most 1048576: NARROWER than '..Said'. Prove '..Said' where nothing that the law and all that it calls make is longer than what came in: it says more and counts as full. Else prove '..UptoSaid'. A law counts once. -/
mutual
def uptoBulk {H : Type} : DataW H → Nat
  | .lit (.string bytes) => bytes.length + 1
  | .lit _ => 1
  | .nil => 1
  | .ptr d => uptoBulk d + 1
  | .slice elems spare => uptoBulkAll elems + uptoBulkAll spare + 1
  | .agg parts => uptoBulkAll parts + 1
  | .iface _ d => uptoBulk d + 1
  | .map entries => uptoBulkEntries entries + 1
  | .held _ => 1
def uptoBulkAll {H : Type} : List (DataW H) → Nat
  | [] => 0
  | d :: r => uptoBulk d + uptoBulkAll r
def uptoBulkEntries {H : Type} : List (Lit × DataW H) → Nat
  | [] => 0
  | x :: r => uptoBulkEntry x + uptoBulkEntries r
def uptoBulkEntry {H : Type} : Lit × DataW H → Nat
  | (.string bytes, d) => bytes.length + uptoBulk d + 1
  | (_, d) => uptoBulk d + 1
 end
def uptoSmall : (H : Type) → List (DataW H) → Bool := fun _ ds => decide (uptoBulkAll ds ≤ 1048576)
def OpenSpec.upto (s : _root_.Go.ChangeSpec) : _root_.Go.OpenSpec := { _root_.Go.OpenSpec.ofChange s with cond := some uptoSmall }

/-- 'freshetlaw10.BloomMake', WHERE WHAT IT READS IS OF BULK AT MOST 1048576: true; the input reads as it did. -/
def bloomMakeUptoRow : OpenClaim := { program := "ytdgfilbfkoeidaa", sum := "be5b0a6432eacbf445e60689b98fe2a8860e44e44855e7313d19b21544d2d8bd", func := "freshet/freshetlaw10.BloomMake", spec := "bloomMake", unfollowed := true, recurses := true, apart := false, narrowed := true }
def BloomMakeUptoSaid : Prop := bloomMakeUptoRow.holds Try.pinned (OpenSpec.upto bloomMakeSpec)

/-- 'freshetlaw10.BloomTurned', WHERE WHAT IT READS IS OF BULK AT MOST 1048576: true; the input reads as it did. -/
def bloomTurnedUptoRow : OpenClaim := { program := "ytdgfilbfkoeidaa", sum := "be5b0a6432eacbf445e60689b98fe2a8860e44e44855e7313d19b21544d2d8bd", func := "freshet/freshetlaw10.BloomTurned", spec := "bloomTurned", unfollowed := true, recurses := true, apart := false, narrowed := true }
def BloomTurnedUptoSaid : Prop := bloomTurnedUptoRow.holds Try.pinned (OpenSpec.upto bloomTurnedSpec)

/-- 'freshetlaw10.BloomSize', WHERE WHAT IT READS IS OF BULK AT MOST 1048576: true; the input reads as it did. -/
def bloomSizeUptoRow : OpenClaim := { program := "ytdgfilbfkoeidaa", sum := "be5b0a6432eacbf445e60689b98fe2a8860e44e44855e7313d19b21544d2d8bd", func := "freshet/freshetlaw10.BloomSize", spec := "bloomSize", unfollowed := true, recurses := true, apart := false, narrowed := true }
def BloomSizeUptoSaid : Prop := bloomSizeUptoRow.holds Try.pinned (OpenSpec.upto bloomSizeSpec)

/-- 'freshetlaw10.BloomHas', WHERE WHAT IT READS IS OF BULK AT MOST 1048576: true; the input reads as it did. -/
def bloomHasUptoRow : OpenClaim := { program := "ytdgfilbfkoeidaa", sum := "be5b0a6432eacbf445e60689b98fe2a8860e44e44855e7313d19b21544d2d8bd", func := "freshet/freshetlaw10.BloomHas", spec := "bloomHas", unfollowed := true, recurses := true, apart := false, narrowed := true }
def BloomHasUptoSaid : Prop := bloomHasUptoRow.holds Try.pinned (OpenSpec.upto bloomHasSpec)

/-- 'freshetlaw10.BloomAll', WHERE WHAT IT READS IS OF BULK AT MOST 1048576: true; the input reads as it did. -/
def bloomAllUptoRow : OpenClaim := { program := "ytdgfilbfkoeidaa", sum := "be5b0a6432eacbf445e60689b98fe2a8860e44e44855e7313d19b21544d2d8bd", func := "freshet/freshetlaw10.BloomAll", spec := "bloomAll", unfollowed := true, recurses := true, apart := false, narrowed := true }
def BloomAllUptoSaid : Prop := bloomAllUptoRow.holds Try.pinned (OpenSpec.upto bloomAllSpec)

/-- 'freshetlaw10.BloomFull', WHERE WHAT IT READS IS OF BULK AT MOST 1048576: true; the input reads as it did. -/
def bloomFullUptoRow : OpenClaim := { program := "ytdgfilbfkoeidaa", sum := "be5b0a6432eacbf445e60689b98fe2a8860e44e44855e7313d19b21544d2d8bd", func := "freshet/freshetlaw10.BloomFull", spec := "bloomFull", unfollowed := true, recurses := true, apart := false, narrowed := true }
def BloomFullUptoSaid : Prop := bloomFullUptoRow.holds Try.pinned (OpenSpec.upto bloomFullSpec)

end Rows
end Go.Proofs.Ytdgfilbfkoeidaa
