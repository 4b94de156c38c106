/-
  No cell of these rows narrows 'for every input' (looked for: loops, veiled, ifaces, maps, wideKeys, modest, calm, conditions, laid).
  DERIVED. THE GIVEN ROWS OF THIS SEAT. 8 by the template 'for every input the law returns true; each argument reads behind the call as it read before'; 0 by the template 'total and deterministic' (their statements: YtnkfldoejalpkaaTotals.lean).
  GIVEN WITH THE SEED: the statements are not yours to turn. If you find one false, say at which input.
  Laid BY PROGRAM, IN A SANDBOX (cutbox-rows.mjs): the forced cells as the released guide's own fill.sh prints them over the translation d587aaf0713a1fdc… (all of the seat's roots in one cut). By AI agents, Wed Nov 11 2026. No macro, syntax, notation, axiom, sorry.
-/
import Derived.Test.YtnkfldoejalpkaaChecked
import GoSem.Claim
import GoSem.ClaimJoined
import GoSem.ClaimMapViews
import Derived.JoinedTies
import Derived.KernelRfl
namespace Go.Proofs.Ytnkfldoejalpkaa
/- THE CELL 'sum', in the pinned program and in every row, IS THE sha256 OF THE DUMP (.gsa) THAT YtnkfldoejalpkaaProg.lean LOADS. Nothing in Lean hashes anything: it is a label: what it is worth is what the hold of that sum in a sandbox is worth. -/
noncomputable def Try.pinned : Pinned := { name := "ytnkfldoejalpkaa", sum := "d587aaf0713a1fdc037667a6c58f3632b7153c9dcfa3cf7d73f9b3651f9b6215", checked := Try.checked }
namespace Rows
def none {H : Type} : Left H := { results := [], args := [] }

/-- 'freshetlaw23.MarksInOrder': WHATEVER THE INPUT: true; the input reads as it did. -/
def marksInOrderSpec : ChangeSpec := { name := "marksInOrder", fn := fun _ => fun
  | [d1, d2, d3, d4] => { results := [.lit (.bool true)], args := [d1, d2, d3, d4] }
  | _ => none }
def marksInOrderRow : OpenClaim := { program := "ytnkfldoejalpkaa", sum := "d587aaf0713a1fdc037667a6c58f3632b7153c9dcfa3cf7d73f9b3651f9b6215", func := "freshet/freshetlaw23.MarksInOrder", spec := "marksInOrder", apart := false }
def MarksInOrderSaid : Prop := marksInOrderRow.holds Try.pinned (OpenSpec.ofChange marksInOrderSpec)

/-- ITS FALSE NEIGHBOUR: 'it returns false'. Refute it at one input. -/
def marksInOrderWrong : ChangeSpec := { name := "marksInOrder", fn := fun _ => fun
  | [d1, d2, d3, d4] => { results := [.lit (.bool false)], args := [d1, d2, d3, d4] }
  | _ => none }
def MarksInOrderWrongFalsely : Prop := marksInOrderRow.holds Try.pinned (OpenSpec.ofChange marksInOrderWrong)

/-- 'freshetlaw23.MarksRise': WHATEVER THE INPUT: true; the input reads as it did. -/
def marksRiseSpec : ChangeSpec := { name := "marksRise", fn := fun _ => fun
  | [d1, d2, d3] => { results := [.lit (.bool true)], args := [d1, d2, d3] }
  | _ => none }
def marksRiseRow : OpenClaim := { program := "ytnkfldoejalpkaa", sum := "d587aaf0713a1fdc037667a6c58f3632b7153c9dcfa3cf7d73f9b3651f9b6215", func := "freshet/freshetlaw23.MarksRise", spec := "marksRise", apart := false }
def MarksRiseSaid : Prop := marksRiseRow.holds Try.pinned (OpenSpec.ofChange marksRiseSpec)

/-- ITS FALSE NEIGHBOUR: 'it returns false'. Refute it at one input. -/
def marksRiseWrong : ChangeSpec := { name := "marksRise", fn := fun _ => fun
  | [d1, d2, d3] => { results := [.lit (.bool false)], args := [d1, d2, d3] }
  | _ => none }
def MarksRiseWrongFalsely : Prop := marksRiseRow.holds Try.pinned (OpenSpec.ofChange marksRiseWrong)

/-- 'freshetlaw23.MarksTurned': WHATEVER THE INPUT: true; the input reads as it did. -/
def marksTurnedSpec : ChangeSpec := { name := "marksTurned", fn := fun _ => fun
  | [d1, d2, d3] => { results := [.lit (.bool true)], args := [d1, d2, d3] }
  | _ => none }
def marksTurnedRow : OpenClaim := { program := "ytnkfldoejalpkaa", sum := "d587aaf0713a1fdc037667a6c58f3632b7153c9dcfa3cf7d73f9b3651f9b6215", func := "freshet/freshetlaw23.MarksTurned", spec := "marksTurned", apart := false }
def MarksTurnedSaid : Prop := marksTurnedRow.holds Try.pinned (OpenSpec.ofChange marksTurnedSpec)

/-- ITS FALSE NEIGHBOUR: 'it returns false'. Refute it at one input. -/
def marksTurnedWrong : ChangeSpec := { name := "marksTurned", fn := fun _ => fun
  | [d1, d2, d3] => { results := [.lit (.bool false)], args := [d1, d2, d3] }
  | _ => none }
def MarksTurnedWrongFalsely : Prop := marksTurnedRow.holds Try.pinned (OpenSpec.ofChange marksTurnedWrong)

/-- 'freshetlaw23.MarksNone': WHATEVER THE INPUT: true; the input reads as it did. -/
def marksNoneSpec : ChangeSpec := { name := "marksNone", fn := fun _ => fun
  | [d1, d2] => { results := [.lit (.bool true)], args := [d1, d2] }
  | _ => none }
def marksNoneRow : OpenClaim := { program := "ytnkfldoejalpkaa", sum := "d587aaf0713a1fdc037667a6c58f3632b7153c9dcfa3cf7d73f9b3651f9b6215", func := "freshet/freshetlaw23.MarksNone", spec := "marksNone", apart := false }
def MarksNoneSaid : Prop := marksNoneRow.holds Try.pinned (OpenSpec.ofChange marksNoneSpec)

/-- ITS FALSE NEIGHBOUR: 'it returns false'. Refute it at one input. -/
def marksNoneWrong : ChangeSpec := { name := "marksNone", fn := fun _ => fun
  | [d1, d2] => { results := [.lit (.bool false)], args := [d1, d2] }
  | _ => none }
def MarksNoneWrongFalsely : Prop := marksNoneRow.holds Try.pinned (OpenSpec.ofChange marksNoneWrong)

/-- 'freshetlaw23.MarksTwice': WHATEVER THE INPUT: true; the input reads as it did. -/
def marksTwiceSpec : ChangeSpec := { name := "marksTwice", fn := fun _ => fun
  | [d1, d2, d3, d4] => { results := [.lit (.bool true)], args := [d1, d2, d3, d4] }
  | _ => none }
def marksTwiceRow : OpenClaim := { program := "ytnkfldoejalpkaa", sum := "d587aaf0713a1fdc037667a6c58f3632b7153c9dcfa3cf7d73f9b3651f9b6215", func := "freshet/freshetlaw23.MarksTwice", spec := "marksTwice", apart := false }
def MarksTwiceSaid : Prop := marksTwiceRow.holds Try.pinned (OpenSpec.ofChange marksTwiceSpec)

/-- ITS FALSE NEIGHBOUR: 'it returns false'. Refute it at one input. -/
def marksTwiceWrong : ChangeSpec := { name := "marksTwice", fn := fun _ => fun
  | [d1, d2, d3, d4] => { results := [.lit (.bool false)], args := [d1, d2, d3, d4] }
  | _ => none }
def MarksTwiceWrongFalsely : Prop := marksTwiceRow.holds Try.pinned (OpenSpec.ofChange marksTwiceWrong)

/-- 'freshetlaw23.MarksRead': WHATEVER THE INPUT: true; the input reads as it did. -/
def marksReadSpec : ChangeSpec := { name := "marksRead", fn := fun _ => fun
  | [d] => { results := [.lit (.bool true)], args := [d] }
  | _ => none }
def marksReadRow : OpenClaim := { program := "ytnkfldoejalpkaa", sum := "d587aaf0713a1fdc037667a6c58f3632b7153c9dcfa3cf7d73f9b3651f9b6215", func := "freshet/freshetlaw23.MarksRead", spec := "marksRead", unfollowed := true, recurses := true, apart := false }
def MarksReadSaid : Prop := marksReadRow.holds Try.pinned (OpenSpec.ofChange marksReadSpec)

/-- ITS FALSE NEIGHBOUR: 'it returns false'. Refute it at one input. -/
def marksReadWrong : ChangeSpec := { name := "marksRead", fn := fun _ => fun
  | [d] => { results := [.lit (.bool false)], args := [d] }
  | _ => none }
def MarksReadWrongFalsely : Prop := marksReadRow.holds Try.pinned (OpenSpec.ofChange marksReadWrong)

/-- 'freshetlaw23.MarksPlays': WHATEVER THE INPUT: true; the input reads as it did. -/
def marksPlaysSpec : ChangeSpec := { name := "marksPlays", fn := fun _ => fun
  | [d1, d2, d3] => { results := [.lit (.bool true)], args := [d1, d2, d3] }
  | _ => none }
def marksPlaysRow : OpenClaim := { program := "ytnkfldoejalpkaa", sum := "d587aaf0713a1fdc037667a6c58f3632b7153c9dcfa3cf7d73f9b3651f9b6215", func := "freshet/freshetlaw23.MarksPlays", spec := "marksPlays", unfollowed := true, recurses := true, apart := false }
def MarksPlaysSaid : Prop := marksPlaysRow.holds Try.pinned (OpenSpec.ofChange marksPlaysSpec)

/-- ITS FALSE NEIGHBOUR: 'it returns false'. Refute it at one input. -/
def marksPlaysWrong : ChangeSpec := { name := "marksPlays", fn := fun _ => fun
  | [d1, d2, d3] => { results := [.lit (.bool false)], args := [d1, d2, d3] }
  | _ => none }
def MarksPlaysWrongFalsely : Prop := marksPlaysRow.holds Try.pinned (OpenSpec.ofChange marksPlaysWrong)

/-- 'freshetlaw23.MarksAgain': WHATEVER THE INPUT: true; the input reads as it did. -/
def marksAgainSpec : ChangeSpec := { name := "marksAgain", fn := fun _ => fun
  | [d1, d2, d3, d4] => { results := [.lit (.bool true)], args := [d1, d2, d3, d4] }
  | _ => none }
def marksAgainRow : OpenClaim := { program := "ytnkfldoejalpkaa", sum := "d587aaf0713a1fdc037667a6c58f3632b7153c9dcfa3cf7d73f9b3651f9b6215", func := "freshet/freshetlaw23.MarksAgain", spec := "marksAgain", unfollowed := true, recurses := true, apart := false }
def MarksAgainSaid : Prop := marksAgainRow.holds Try.pinned (OpenSpec.ofChange marksAgainSpec)

/-- ITS FALSE NEIGHBOUR: 'it returns false'. Refute it at one input. -/
def marksAgainWrong : ChangeSpec := { name := "marksAgain", fn := fun _ => fun
  | [d1, d2, d3, d4] => { results := [.lit (.bool false)], args := [d1, d2, d3, d4] }
  | _ => none }
def MarksAgainWrongFalsely : Prop := marksAgainRow.holds Try.pinned (OpenSpec.ofChange marksAgainWrong)

/- THE SECOND FORM. 'bulk': how many values and letters a reading holds, each counted each time it is reached (what is shared counts as often as it is met; a slice's spare places count too). A statement '..UptoSaid' is the law's where the arguments, and the package variables that the reading takes, are together of bulk at most 1048576: NARROWER than '..Said'. Prove '..Said' where nothing that the law and all that it calls make is longer than what came in: it says more and counts as full. Else prove '..UptoSaid'. A law counts once. -/
mutual
def uptoBulk {H : Type} : DataW H → Nat
  | .lit (.string bytes) => bytes.length + 1
  | .lit _ => 1
  | .nil => 1
  | .ptr d => uptoBulk d + 1
  | .slice elems spare => uptoBulkAll elems + uptoBulkAll spare + 1
  | .agg parts => uptoBulkAll parts + 1
  | .iface _ d => uptoBulk d + 1
  | .map entries => uptoBulkEntries entries + 1
  | .held _ => 1
def uptoBulkAll {H : Type} : List (DataW H) → Nat
  | [] => 0
  | d :: r => uptoBulk d + uptoBulkAll r
def uptoBulkEntries {H : Type} : List (Lit × DataW H) → Nat
  | [] => 0
  | x :: r => uptoBulkEntry x + uptoBulkEntries r
def uptoBulkEntry {H : Type} : Lit × DataW H → Nat
  | (.string bytes, d) => bytes.length + uptoBulk d + 1
  | (_, d) => uptoBulk d + 1
 end
def uptoSmall : (H : Type) → List (DataW H) → Bool := fun _ ds => decide (uptoBulkAll ds ≤ 1048576)
def OpenSpec.upto (s : _root_.Go.ChangeSpec) : _root_.Go.OpenSpec := { _root_.Go.OpenSpec.ofChange s with cond := some uptoSmall }

/-- 'freshetlaw23.MarksInOrder', WHERE WHAT IT READS IS OF BULK AT MOST 1048576: true; the input reads as it did. -/
def marksInOrderUptoRow : OpenClaim := { program := "ytnkfldoejalpkaa", sum := "d587aaf0713a1fdc037667a6c58f3632b7153c9dcfa3cf7d73f9b3651f9b6215", func := "freshet/freshetlaw23.MarksInOrder", spec := "marksInOrder", apart := false, narrowed := true }
def MarksInOrderUptoSaid : Prop := marksInOrderUptoRow.holds Try.pinned (OpenSpec.upto marksInOrderSpec)

/-- 'freshetlaw23.MarksRise', WHERE WHAT IT READS IS OF BULK AT MOST 1048576: true; the input reads as it did. -/
def marksRiseUptoRow : OpenClaim := { program := "ytnkfldoejalpkaa", sum := "d587aaf0713a1fdc037667a6c58f3632b7153c9dcfa3cf7d73f9b3651f9b6215", func := "freshet/freshetlaw23.MarksRise", spec := "marksRise", apart := false, narrowed := true }
def MarksRiseUptoSaid : Prop := marksRiseUptoRow.holds Try.pinned (OpenSpec.upto marksRiseSpec)

/-- 'freshetlaw23.MarksTurned', WHERE WHAT IT READS IS OF BULK AT MOST 1048576: true; the input reads as it did. -/
def marksTurnedUptoRow : OpenClaim := { program := "ytnkfldoejalpkaa", sum := "d587aaf0713a1fdc037667a6c58f3632b7153c9dcfa3cf7d73f9b3651f9b6215", func := "freshet/freshetlaw23.MarksTurned", spec := "marksTurned", apart := false, narrowed := true }
def MarksTurnedUptoSaid : Prop := marksTurnedUptoRow.holds Try.pinned (OpenSpec.upto marksTurnedSpec)

/-- 'freshetlaw23.MarksNone', WHERE WHAT IT READS IS OF BULK AT MOST 1048576: true; the input reads as it did. -/
def marksNoneUptoRow : OpenClaim := { program := "ytnkfldoejalpkaa", sum := "d587aaf0713a1fdc037667a6c58f3632b7153c9dcfa3cf7d73f9b3651f9b6215", func := "freshet/freshetlaw23.MarksNone", spec := "marksNone", apart := false, narrowed := true }
def MarksNoneUptoSaid : Prop := marksNoneUptoRow.holds Try.pinned (OpenSpec.upto marksNoneSpec)

/-- 'freshetlaw23.MarksTwice', WHERE WHAT IT READS IS OF BULK AT MOST 1048576: true; the input reads as it did. -/
def marksTwiceUptoRow : OpenClaim := { program := "ytnkfldoejalpkaa", sum := "d587aaf0713a1fdc037667a6c58f3632b7153c9dcfa3cf7d73f9b3651f9b6215", func := "freshet/freshetlaw23.MarksTwice", spec := "marksTwice", apart := false, narrowed := true }
def MarksTwiceUptoSaid : Prop := marksTwiceUptoRow.holds Try.pinned (OpenSpec.upto marksTwiceSpec)

/-- 'freshetlaw23.MarksRead', WHERE WHAT IT READS IS OF BULK AT MOST 1048576: true; the input reads as it did. -/
def marksReadUptoRow : OpenClaim := { program := "ytnkfldoejalpkaa", sum := "d587aaf0713a1fdc037667a6c58f3632b7153c9dcfa3cf7d73f9b3651f9b6215", func := "freshet/freshetlaw23.MarksRead", spec := "marksRead", unfollowed := true, recurses := true, apart := false, narrowed := true }
def MarksReadUptoSaid : Prop := marksReadUptoRow.holds Try.pinned (OpenSpec.upto marksReadSpec)

/-- 'freshetlaw23.MarksPlays', WHERE WHAT IT READS IS OF BULK AT MOST 1048576: true; the input reads as it did. -/
def marksPlaysUptoRow : OpenClaim := { program := "ytnkfldoejalpkaa", sum := "d587aaf0713a1fdc037667a6c58f3632b7153c9dcfa3cf7d73f9b3651f9b6215", func := "freshet/freshetlaw23.MarksPlays", spec := "marksPlays", unfollowed := true, recurses := true, apart := false, narrowed := true }
def MarksPlaysUptoSaid : Prop := marksPlaysUptoRow.holds Try.pinned (OpenSpec.upto marksPlaysSpec)

/-- 'freshetlaw23.MarksAgain', WHERE WHAT IT READS IS OF BULK AT MOST 1048576: true; the input reads as it did. -/
def marksAgainUptoRow : OpenClaim := { program := "ytnkfldoejalpkaa", sum := "d587aaf0713a1fdc037667a6c58f3632b7153c9dcfa3cf7d73f9b3651f9b6215", func := "freshet/freshetlaw23.MarksAgain", spec := "marksAgain", unfollowed := true, recurses := true, apart := false, narrowed := true }
def MarksAgainUptoSaid : Prop := marksAgainUptoRow.holds Try.pinned (OpenSpec.upto marksAgainSpec)

end Rows
end Go.Proofs.Ytnkfldoejalpkaa
