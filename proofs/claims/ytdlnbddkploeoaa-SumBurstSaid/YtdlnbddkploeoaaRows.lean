/-
  No cell of these rows narrows 'for every input' (looked for: loops, veiled, ifaces, maps, wideKeys, modest, calm, conditions, laid).
  DERIVED. THE GIVEN ROWS OF THIS SEAT. 8 by the template 'for every input the law returns true; each argument reads behind the call as it read before'; 0 by the template 'total and deterministic' (their statements: YtdlnbddkploeoaaTotals.lean).
  GIVEN WITH THE SEED: the statements are not yours to turn. If you find one false, say at which input.
  Laid BY PROGRAM, IN A SANDBOX (cutbox-rows.mjs): the forced cells as the released guide's own fill.sh prints them over the translation 5bce4c070ed049bd… (all of the seat's roots in one cut). By AI agents, Wed Nov 11 2026. No macro, syntax, notation, axiom, sorry.
-/
import Derived.Test.YtdlnbddkploeoaaChecked
import GoSem.Claim
import GoSem.ClaimJoined
import GoSem.ClaimMapViews
import Derived.JoinedTies
import Derived.KernelRfl
namespace Go.Proofs.Ytdlnbddkploeoaa
/- THE CELL 'sum', in the pinned program and in every row, IS THE sha256 OF THE DUMP (.gsa) THAT YtdlnbddkploeoaaProg.lean LOADS. Nothing in Lean hashes anything: it is a label: what it is worth is what the hold of that sum in a sandbox is worth. -/
noncomputable def Try.pinned : Pinned := { name := "ytdlnbddkploeoaa", sum := "5bce4c070ed049bdba0d01e473caa1a3b88d67fd3e8acc3b81a4f508a8f0362b", checked := Try.checked }
namespace Rows
def none {H : Type} : Left H := { results := [], args := [] }

/-- 'freshetlaw01.SumOf': WHATEVER THE INPUT: true; the input reads as it did. -/
def sumOfSpec : ChangeSpec := { name := "sumOf", fn := fun _ => fun
  | [d1, d2] => { results := [.lit (.bool true)], args := [d1, d2] }
  | _ => none }
def sumOfRow : OpenClaim := { program := "ytdlnbddkploeoaa", sum := "5bce4c070ed049bdba0d01e473caa1a3b88d67fd3e8acc3b81a4f508a8f0362b", func := "freshet/freshetlaw01.SumOf", spec := "sumOf", unfollowed := true, recurses := true, apart := false }
def SumOfSaid : Prop := sumOfRow.holds Try.pinned (OpenSpec.ofChange sumOfSpec)

/-- ITS FALSE NEIGHBOUR: 'it returns false'. Refute it at one input. -/
def sumOfWrong : ChangeSpec := { name := "sumOf", fn := fun _ => fun
  | [d1, d2] => { results := [.lit (.bool false)], args := [d1, d2] }
  | _ => none }
def SumOfWrongFalsely : Prop := sumOfRow.holds Try.pinned (OpenSpec.ofChange sumOfWrong)

/-- 'freshetlaw01.SumHash': WHATEVER THE INPUT: true; the input reads as it did. -/
def sumHashSpec : ChangeSpec := { name := "sumHash", fn := fun _ => fun
  | [d1, d2] => { results := [.lit (.bool true)], args := [d1, d2] }
  | _ => none }
def sumHashRow : OpenClaim := { program := "ytdlnbddkploeoaa", sum := "5bce4c070ed049bdba0d01e473caa1a3b88d67fd3e8acc3b81a4f508a8f0362b", func := "freshet/freshetlaw01.SumHash", spec := "sumHash", unfollowed := true, recurses := true, apart := false }
def SumHashSaid : Prop := sumHashRow.holds Try.pinned (OpenSpec.ofChange sumHashSpec)

/-- ITS FALSE NEIGHBOUR: 'it returns false'. Refute it at one input. -/
def sumHashWrong : ChangeSpec := { name := "sumHash", fn := fun _ => fun
  | [d1, d2] => { results := [.lit (.bool false)], args := [d1, d2] }
  | _ => none }
def SumHashWrongFalsely : Prop := sumHashRow.holds Try.pinned (OpenSpec.ofChange sumHashWrong)

/-- 'freshetlaw01.SumMore': WHATEVER THE INPUT: true; the input reads as it did. -/
def sumMoreSpec : ChangeSpec := { name := "sumMore", fn := fun _ => fun
  | [d1, d2] => { results := [.lit (.bool true)], args := [d1, d2] }
  | _ => none }
def sumMoreRow : OpenClaim := { program := "ytdlnbddkploeoaa", sum := "5bce4c070ed049bdba0d01e473caa1a3b88d67fd3e8acc3b81a4f508a8f0362b", func := "freshet/freshetlaw01.SumMore", spec := "sumMore", unfollowed := true, recurses := true, apart := false }
def SumMoreSaid : Prop := sumMoreRow.holds Try.pinned (OpenSpec.ofChange sumMoreSpec)

/-- ITS FALSE NEIGHBOUR: 'it returns false'. Refute it at one input. -/
def sumMoreWrong : ChangeSpec := { name := "sumMore", fn := fun _ => fun
  | [d1, d2] => { results := [.lit (.bool false)], args := [d1, d2] }
  | _ => none }
def SumMoreWrongFalsely : Prop := sumMoreRow.holds Try.pinned (OpenSpec.ofChange sumMoreWrong)

/-- 'freshetlaw01.SumBurst': WHATEVER THE INPUT: true; the input reads as it did. -/
def sumBurstSpec : ChangeSpec := { name := "sumBurst", fn := fun _ => fun
  | [d1, d2, d3] => { results := [.lit (.bool true)], args := [d1, d2, d3] }
  | _ => none }
def sumBurstRow : OpenClaim := { program := "ytdlnbddkploeoaa", sum := "5bce4c070ed049bdba0d01e473caa1a3b88d67fd3e8acc3b81a4f508a8f0362b", func := "freshet/freshetlaw01.SumBurst", spec := "sumBurst", unfollowed := true, recurses := true, apart := false }
def SumBurstSaid : Prop := sumBurstRow.holds Try.pinned (OpenSpec.ofChange sumBurstSpec)

/-- ITS FALSE NEIGHBOUR: 'it returns false'. Refute it at one input. -/
def sumBurstWrong : ChangeSpec := { name := "sumBurst", fn := fun _ => fun
  | [d1, d2, d3] => { results := [.lit (.bool false)], args := [d1, d2, d3] }
  | _ => none }
def SumBurstWrongFalsely : Prop := sumBurstRow.holds Try.pinned (OpenSpec.ofChange sumBurstWrong)

/-- 'freshetlaw01.SumFour': WHATEVER THE INPUT: true; the input reads as it did. -/
def sumFourSpec : ChangeSpec := { name := "sumFour", fn := fun _ => fun
  | [d1, d2, d3] => { results := [.lit (.bool true)], args := [d1, d2, d3] }
  | _ => none }
def sumFourRow : OpenClaim := { program := "ytdlnbddkploeoaa", sum := "5bce4c070ed049bdba0d01e473caa1a3b88d67fd3e8acc3b81a4f508a8f0362b", func := "freshet/freshetlaw01.SumFour", spec := "sumFour", unfollowed := true, recurses := true, apart := false }
def SumFourSaid : Prop := sumFourRow.holds Try.pinned (OpenSpec.ofChange sumFourSpec)

/-- ITS FALSE NEIGHBOUR: 'it returns false'. Refute it at one input. -/
def sumFourWrong : ChangeSpec := { name := "sumFour", fn := fun _ => fun
  | [d1, d2, d3] => { results := [.lit (.bool false)], args := [d1, d2, d3] }
  | _ => none }
def SumFourWrongFalsely : Prop := sumFourRow.holds Try.pinned (OpenSpec.ofChange sumFourWrong)

/-- 'freshetlaw01.SumSeal': WHATEVER THE INPUT: true; the input reads as it did. -/
def sumSealSpec : ChangeSpec := { name := "sumSeal", fn := fun _ => fun
  | [d1, d2] => { results := [.lit (.bool true)], args := [d1, d2] }
  | _ => none }
def sumSealRow : OpenClaim := { program := "ytdlnbddkploeoaa", sum := "5bce4c070ed049bdba0d01e473caa1a3b88d67fd3e8acc3b81a4f508a8f0362b", func := "freshet/freshetlaw01.SumSeal", spec := "sumSeal", unfollowed := true, recurses := true, apart := false }
def SumSealSaid : Prop := sumSealRow.holds Try.pinned (OpenSpec.ofChange sumSealSpec)

/-- ITS FALSE NEIGHBOUR: 'it returns false'. Refute it at one input. -/
def sumSealWrong : ChangeSpec := { name := "sumSeal", fn := fun _ => fun
  | [d1, d2] => { results := [.lit (.bool false)], args := [d1, d2] }
  | _ => none }
def SumSealWrongFalsely : Prop := sumSealRow.holds Try.pinned (OpenSpec.ofChange sumSealWrong)

/-- 'freshetlaw01.SumLast': WHATEVER THE INPUT: true; the input reads as it did. -/
def sumLastSpec : ChangeSpec := { name := "sumLast", fn := fun _ => fun
  | [d1, d2, d3] => { results := [.lit (.bool true)], args := [d1, d2, d3] }
  | _ => none }
def sumLastRow : OpenClaim := { program := "ytdlnbddkploeoaa", sum := "5bce4c070ed049bdba0d01e473caa1a3b88d67fd3e8acc3b81a4f508a8f0362b", func := "freshet/freshetlaw01.SumLast", spec := "sumLast", unfollowed := true, recurses := true, apart := false }
def SumLastSaid : Prop := sumLastRow.holds Try.pinned (OpenSpec.ofChange sumLastSpec)

/-- ITS FALSE NEIGHBOUR: 'it returns false'. Refute it at one input. -/
def sumLastWrong : ChangeSpec := { name := "sumLast", fn := fun _ => fun
  | [d1, d2, d3] => { results := [.lit (.bool false)], args := [d1, d2, d3] }
  | _ => none }
def SumLastWrongFalsely : Prop := sumLastRow.holds Try.pinned (OpenSpec.ofChange sumLastWrong)

/-- 'freshetlaw01.SumApart': WHATEVER THE INPUT: true; the input reads as it did. -/
def sumApartSpec : ChangeSpec := { name := "sumApart", fn := fun _ => fun
  | [d1, d2, d3] => { results := [.lit (.bool true)], args := [d1, d2, d3] }
  | _ => none }
def sumApartRow : OpenClaim := { program := "ytdlnbddkploeoaa", sum := "5bce4c070ed049bdba0d01e473caa1a3b88d67fd3e8acc3b81a4f508a8f0362b", func := "freshet/freshetlaw01.SumApart", spec := "sumApart", unfollowed := true, recurses := true, apart := false }
def SumApartSaid : Prop := sumApartRow.holds Try.pinned (OpenSpec.ofChange sumApartSpec)

/-- ITS FALSE NEIGHBOUR: 'it returns false'. Refute it at one input. -/
def sumApartWrong : ChangeSpec := { name := "sumApart", fn := fun _ => fun
  | [d1, d2, d3] => { results := [.lit (.bool false)], args := [d1, d2, d3] }
  | _ => none }
def SumApartWrongFalsely : Prop := sumApartRow.holds Try.pinned (OpenSpec.ofChange sumApartWrong)

/- THE SECOND FORM. 'bulk': how many values and letters a reading holds, each counted each time it is reached (what is shared counts as often as it is met; a slice's spare places count too). A statement '..UptoSaid' is the law's where the arguments, and the package variables that the reading takes, are together of bulk at most 1048576: NARROWER than '..Said'. Prove '..Said' where nothing that the law and all that it calls make is longer than what came in: it says more and counts as full. Else prove '..UptoSaid'. A law counts once. -/
mutual
def uptoBulk {H : Type} : DataW H → Nat
  | .lit (.string bytes) => bytes.length + 1
  | .lit _ => 1
  | .nil => 1
  | .ptr d => uptoBulk d + 1
  | .slice elems spare => uptoBulkAll elems + uptoBulkAll spare + 1
  | .agg parts => uptoBulkAll parts + 1
  | .iface _ d => uptoBulk d + 1
  | .map entries => uptoBulkEntries entries + 1
  | .held _ => 1
def uptoBulkAll {H : Type} : List (DataW H) → Nat
  | [] => 0
  | d :: r => uptoBulk d + uptoBulkAll r
def uptoBulkEntries {H : Type} : List (Lit × DataW H) → Nat
  | [] => 0
  | x :: r => uptoBulkEntry x + uptoBulkEntries r
def uptoBulkEntry {H : Type} : Lit × DataW H → Nat
  | (.string bytes, d) => bytes.length + uptoBulk d + 1
  | (_, d) => uptoBulk d + 1
 end
def uptoSmall : (H : Type) → List (DataW H) → Bool := fun _ ds => decide (uptoBulkAll ds ≤ 1048576)
def OpenSpec.upto (s : _root_.Go.ChangeSpec) : _root_.Go.OpenSpec := { _root_.Go.OpenSpec.ofChange s with cond := some uptoSmall }

/-- 'freshetlaw01.SumOf', WHERE WHAT IT READS IS OF BULK AT MOST 1048576: true; the input reads as it did. -/
def sumOfUptoRow : OpenClaim := { program := "ytdlnbddkploeoaa", sum := "5bce4c070ed049bdba0d01e473caa1a3b88d67fd3e8acc3b81a4f508a8f0362b", func := "freshet/freshetlaw01.SumOf", spec := "sumOf", unfollowed := true, recurses := true, apart := false, narrowed := true }
def SumOfUptoSaid : Prop := sumOfUptoRow.holds Try.pinned (OpenSpec.upto sumOfSpec)

/-- 'freshetlaw01.SumHash', WHERE WHAT IT READS IS OF BULK AT MOST 1048576: true; the input reads as it did. -/
def sumHashUptoRow : OpenClaim := { program := "ytdlnbddkploeoaa", sum := "5bce4c070ed049bdba0d01e473caa1a3b88d67fd3e8acc3b81a4f508a8f0362b", func := "freshet/freshetlaw01.SumHash", spec := "sumHash", unfollowed := true, recurses := true, apart := false, narrowed := true }
def SumHashUptoSaid : Prop := sumHashUptoRow.holds Try.pinned (OpenSpec.upto sumHashSpec)

/-- 'freshetlaw01.SumMore', WHERE WHAT IT READS IS OF BULK AT MOST 1048576: true; the input reads as it did. -/
def sumMoreUptoRow : OpenClaim := { program := "ytdlnbddkploeoaa", sum := "5bce4c070ed049bdba0d01e473caa1a3b88d67fd3e8acc3b81a4f508a8f0362b", func := "freshet/freshetlaw01.SumMore", spec := "sumMore", unfollowed := true, recurses := true, apart := false, narrowed := true }
def SumMoreUptoSaid : Prop := sumMoreUptoRow.holds Try.pinned (OpenSpec.upto sumMoreSpec)

/-- 'freshetlaw01.SumBurst', WHERE WHAT IT READS IS OF BULK AT MOST 1048576: true; the input reads as it did. -/
def sumBurstUptoRow : OpenClaim := { program := "ytdlnbddkploeoaa", sum := "5bce4c070ed049bdba0d01e473caa1a3b88d67fd3e8acc3b81a4f508a8f0362b", func := "freshet/freshetlaw01.SumBurst", spec := "sumBurst", unfollowed := true, recurses := true, apart := false, narrowed := true }
def SumBurstUptoSaid : Prop := sumBurstUptoRow.holds Try.pinned (OpenSpec.upto sumBurstSpec)

/-- 'freshetlaw01.SumFour', WHERE WHAT IT READS IS OF BULK AT MOST 1048576: true; the input reads as it did. -/
def sumFourUptoRow : OpenClaim := { program := "ytdlnbddkploeoaa", sum := "5bce4c070ed049bdba0d01e473caa1a3b88d67fd3e8acc3b81a4f508a8f0362b", func := "freshet/freshetlaw01.SumFour", spec := "sumFour", unfollowed := true, recurses := true, apart := false, narrowed := true }
def SumFourUptoSaid : Prop := sumFourUptoRow.holds Try.pinned (OpenSpec.upto sumFourSpec)

/-- 'freshetlaw01.SumSeal', WHERE WHAT IT READS IS OF BULK AT MOST 1048576: true; the input reads as it did. -/
def sumSealUptoRow : OpenClaim := { program := "ytdlnbddkploeoaa", sum := "5bce4c070ed049bdba0d01e473caa1a3b88d67fd3e8acc3b81a4f508a8f0362b", func := "freshet/freshetlaw01.SumSeal", spec := "sumSeal", unfollowed := true, recurses := true, apart := false, narrowed := true }
def SumSealUptoSaid : Prop := sumSealUptoRow.holds Try.pinned (OpenSpec.upto sumSealSpec)

/-- 'freshetlaw01.SumLast', WHERE WHAT IT READS IS OF BULK AT MOST 1048576: true; the input reads as it did. -/
def sumLastUptoRow : OpenClaim := { program := "ytdlnbddkploeoaa", sum := "5bce4c070ed049bdba0d01e473caa1a3b88d67fd3e8acc3b81a4f508a8f0362b", func := "freshet/freshetlaw01.SumLast", spec := "sumLast", unfollowed := true, recurses := true, apart := false, narrowed := true }
def SumLastUptoSaid : Prop := sumLastUptoRow.holds Try.pinned (OpenSpec.upto sumLastSpec)

/-- 'freshetlaw01.SumApart', WHERE WHAT IT READS IS OF BULK AT MOST 1048576: true; the input reads as it did. -/
def sumApartUptoRow : OpenClaim := { program := "ytdlnbddkploeoaa", sum := "5bce4c070ed049bdba0d01e473caa1a3b88d67fd3e8acc3b81a4f508a8f0362b", func := "freshet/freshetlaw01.SumApart", spec := "sumApart", unfollowed := true, recurses := true, apart := false, narrowed := true }
def SumApartUptoSaid : Prop := sumApartUptoRow.holds Try.pinned (OpenSpec.upto sumApartSpec)

end Rows
end Go.Proofs.Ytdlnbddkploeoaa
