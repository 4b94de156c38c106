/-
  No cell of these rows narrows 'for every input' (looked for: loops, veiled, ifaces, maps, wideKeys, modest, calm, conditions, laid).
  DERIVED. THE GIVEN ROWS OF THIS SEAT. 10 by the template 'for every input the law returns true; each argument reads behind the call as it read before'; 0 by the template 'total and deterministic' (their statements: YtdidcjmefinhjaaTotals.lean).
  GIVEN WITH THE SEED: the statements are not yours to turn. If you find one false, say at which input.
  Laid BY PROGRAM, IN A SANDBOX (cutbox-rows.mjs): the forced cells as the released guide's own fill.sh prints them over the translation d2f9f766d1538a55… (all of the seat's roots in one cut). By AI agents, Wed Nov 11 2026. No macro, syntax, notation, axiom, sorry.
-/
import Derived.Test.YtdidcjmefinhjaaChecked
import GoSem.Claim
import GoSem.ClaimJoined
import GoSem.ClaimMapViews
import Derived.JoinedTies
import Derived.KernelRfl
namespace Go.Proofs.Ytdidcjmefinhjaa
/- THE CELL 'sum', in the pinned program and in every row, IS THE sha256 OF THE DUMP (.gsa) THAT YtdidcjmefinhjaaProg.lean LOADS. Nothing in Lean hashes anything: it is a label: what it is worth is what the hold of that sum in a sandbox is worth. -/
noncomputable def Try.pinned : Pinned := { name := "ytdidcjmefinhjaa", sum := "d2f9f766d1538a552eb64f618d67d1db6e078535e73eca625b884d3564badae9", checked := Try.checked }
namespace Rows
def none {H : Type} : Left H := { results := [], args := [] }

/-- 'freshetlaw02.CodeUint': WHATEVER THE INPUT: true; the input reads as it did. -/
def codeUintSpec : ChangeSpec := { name := "codeUint", fn := fun _ => fun
  | [d1, d2] => { results := [.lit (.bool true)], args := [d1, d2] }
  | _ => none }
def codeUintRow : OpenClaim := { program := "ytdidcjmefinhjaa", sum := "d2f9f766d1538a552eb64f618d67d1db6e078535e73eca625b884d3564badae9", func := "freshet/freshetlaw02.CodeUint", spec := "codeUint", unfollowed := true, recurses := true, apart := false }
def CodeUintSaid : Prop := codeUintRow.holds Try.pinned (OpenSpec.ofChange codeUintSpec)

/-- ITS FALSE NEIGHBOUR: 'it returns false'. Refute it at one input. -/
def codeUintWrong : ChangeSpec := { name := "codeUint", fn := fun _ => fun
  | [d1, d2] => { results := [.lit (.bool false)], args := [d1, d2] }
  | _ => none }
def CodeUintWrongFalsely : Prop := codeUintRow.holds Try.pinned (OpenSpec.ofChange codeUintWrong)

/-- 'freshetlaw02.CodeOrder': WHATEVER THE INPUT: true; the input reads as it did. -/
def codeOrderSpec : ChangeSpec := { name := "codeOrder", fn := fun _ => fun
  | [d1, d2, d3, d4, d5, d6] => { results := [.lit (.bool true)], args := [d1, d2, d3, d4, d5, d6] }
  | _ => none }
def codeOrderRow : OpenClaim := { program := "ytdidcjmefinhjaa", sum := "d2f9f766d1538a552eb64f618d67d1db6e078535e73eca625b884d3564badae9", func := "freshet/freshetlaw02.CodeOrder", spec := "codeOrder", unfollowed := true, recurses := true, apart := false }
def CodeOrderSaid : Prop := codeOrderRow.holds Try.pinned (OpenSpec.ofChange codeOrderSpec)

/-- ITS FALSE NEIGHBOUR: 'it returns false'. Refute it at one input. -/
def codeOrderWrong : ChangeSpec := { name := "codeOrder", fn := fun _ => fun
  | [d1, d2, d3, d4, d5, d6] => { results := [.lit (.bool false)], args := [d1, d2, d3, d4, d5, d6] }
  | _ => none }
def CodeOrderWrongFalsely : Prop := codeOrderRow.holds Try.pinned (OpenSpec.ofChange codeOrderWrong)

/-- 'freshetlaw02.CodeLess': WHATEVER THE INPUT: true; the input reads as it did. -/
def codeLessSpec : ChangeSpec := { name := "codeLess", fn := fun _ => fun
  | [d1, d2] => { results := [.lit (.bool true)], args := [d1, d2] }
  | _ => none }
def codeLessRow : OpenClaim := { program := "ytdidcjmefinhjaa", sum := "d2f9f766d1538a552eb64f618d67d1db6e078535e73eca625b884d3564badae9", func := "freshet/freshetlaw02.CodeLess", spec := "codeLess", unfollowed := true, recurses := true, apart := false }
def CodeLessSaid : Prop := codeLessRow.holds Try.pinned (OpenSpec.ofChange codeLessSpec)

/-- ITS FALSE NEIGHBOUR: 'it returns false'. Refute it at one input. -/
def codeLessWrong : ChangeSpec := { name := "codeLess", fn := fun _ => fun
  | [d1, d2] => { results := [.lit (.bool false)], args := [d1, d2] }
  | _ => none }
def CodeLessWrongFalsely : Prop := codeLessRow.holds Try.pinned (OpenSpec.ofChange codeLessWrong)

/-- 'freshetlaw02.CodeField': WHATEVER THE INPUT: true; the input reads as it did. -/
def codeFieldSpec : ChangeSpec := { name := "codeField", fn := fun _ => fun
  | [d1, d2, d3] => { results := [.lit (.bool true)], args := [d1, d2, d3] }
  | _ => none }
def codeFieldRow : OpenClaim := { program := "ytdidcjmefinhjaa", sum := "d2f9f766d1538a552eb64f618d67d1db6e078535e73eca625b884d3564badae9", func := "freshet/freshetlaw02.CodeField", spec := "codeField", unfollowed := true, recurses := true, apart := false }
def CodeFieldSaid : Prop := codeFieldRow.holds Try.pinned (OpenSpec.ofChange codeFieldSpec)

/-- ITS FALSE NEIGHBOUR: 'it returns false'. Refute it at one input. -/
def codeFieldWrong : ChangeSpec := { name := "codeField", fn := fun _ => fun
  | [d1, d2, d3] => { results := [.lit (.bool false)], args := [d1, d2, d3] }
  | _ => none }
def CodeFieldWrongFalsely : Prop := codeFieldRow.holds Try.pinned (OpenSpec.ofChange codeFieldWrong)

/-- 'freshetlaw02.CodeMany': WHATEVER THE INPUT: true; the input reads as it did. -/
def codeManySpec : ChangeSpec := { name := "codeMany", fn := fun _ => fun
  | [d1, d2] => { results := [.lit (.bool true)], args := [d1, d2] }
  | _ => none }
def codeManyRow : OpenClaim := { program := "ytdidcjmefinhjaa", sum := "d2f9f766d1538a552eb64f618d67d1db6e078535e73eca625b884d3564badae9", func := "freshet/freshetlaw02.CodeMany", spec := "codeMany", unfollowed := true, recurses := true, apart := false }
def CodeManySaid : Prop := codeManyRow.holds Try.pinned (OpenSpec.ofChange codeManySpec)

/-- ITS FALSE NEIGHBOUR: 'it returns false'. Refute it at one input. -/
def codeManyWrong : ChangeSpec := { name := "codeMany", fn := fun _ => fun
  | [d1, d2] => { results := [.lit (.bool false)], args := [d1, d2] }
  | _ => none }
def CodeManyWrongFalsely : Prop := codeManyRow.holds Try.pinned (OpenSpec.ofChange codeManyWrong)

/-- 'freshetlaw02.CodeOrd': WHATEVER THE INPUT: true; the input reads as it did. -/
def codeOrdSpec : ChangeSpec := { name := "codeOrd", fn := fun _ => fun
  | [d1, d2] => { results := [.lit (.bool true)], args := [d1, d2] }
  | _ => none }
def codeOrdRow : OpenClaim := { program := "ytdidcjmefinhjaa", sum := "d2f9f766d1538a552eb64f618d67d1db6e078535e73eca625b884d3564badae9", func := "freshet/freshetlaw02.CodeOrd", spec := "codeOrd", unfollowed := true, recurses := true, apart := false }
def CodeOrdSaid : Prop := codeOrdRow.holds Try.pinned (OpenSpec.ofChange codeOrdSpec)

/-- ITS FALSE NEIGHBOUR: 'it returns false'. Refute it at one input. -/
def codeOrdWrong : ChangeSpec := { name := "codeOrd", fn := fun _ => fun
  | [d1, d2] => { results := [.lit (.bool false)], args := [d1, d2] }
  | _ => none }
def CodeOrdWrongFalsely : Prop := codeOrdRow.holds Try.pinned (OpenSpec.ofChange codeOrdWrong)

/-- 'freshetlaw02.CodeText': WHATEVER THE INPUT: true; the input reads as it did. -/
def codeTextSpec : ChangeSpec := { name := "codeText", fn := fun _ => fun
  | [d1, d2] => { results := [.lit (.bool true)], args := [d1, d2] }
  | _ => none }
def codeTextRow : OpenClaim := { program := "ytdidcjmefinhjaa", sum := "d2f9f766d1538a552eb64f618d67d1db6e078535e73eca625b884d3564badae9", func := "freshet/freshetlaw02.CodeText", spec := "codeText", unfollowed := true, recurses := true, apart := false }
def CodeTextSaid : Prop := codeTextRow.holds Try.pinned (OpenSpec.ofChange codeTextSpec)

/-- ITS FALSE NEIGHBOUR: 'it returns false'. Refute it at one input. -/
def codeTextWrong : ChangeSpec := { name := "codeText", fn := fun _ => fun
  | [d1, d2] => { results := [.lit (.bool false)], args := [d1, d2] }
  | _ => none }
def CodeTextWrongFalsely : Prop := codeTextRow.holds Try.pinned (OpenSpec.ofChange codeTextWrong)

/-- 'freshetlaw02.CodeCut': WHATEVER THE INPUT: true; the input reads as it did. -/
def codeCutSpec : ChangeSpec := { name := "codeCut", fn := fun _ => fun
  | [d1, d2, d3] => { results := [.lit (.bool true)], args := [d1, d2, d3] }
  | _ => none }
def codeCutRow : OpenClaim := { program := "ytdidcjmefinhjaa", sum := "d2f9f766d1538a552eb64f618d67d1db6e078535e73eca625b884d3564badae9", func := "freshet/freshetlaw02.CodeCut", spec := "codeCut", unfollowed := true, recurses := true, apart := false }
def CodeCutSaid : Prop := codeCutRow.holds Try.pinned (OpenSpec.ofChange codeCutSpec)

/-- ITS FALSE NEIGHBOUR: 'it returns false'. Refute it at one input. -/
def codeCutWrong : ChangeSpec := { name := "codeCut", fn := fun _ => fun
  | [d1, d2, d3] => { results := [.lit (.bool false)], args := [d1, d2, d3] }
  | _ => none }
def CodeCutWrongFalsely : Prop := codeCutRow.holds Try.pinned (OpenSpec.ofChange codeCutWrong)

/-- 'freshetlaw02.CodeBack': WHATEVER THE INPUT: true; the input reads as it did. -/
def codeBackSpec : ChangeSpec := { name := "codeBack", fn := fun _ => fun
  | [d1, d2, d3, d4] => { results := [.lit (.bool true)], args := [d1, d2, d3, d4] }
  | _ => none }
def codeBackRow : OpenClaim := { program := "ytdidcjmefinhjaa", sum := "d2f9f766d1538a552eb64f618d67d1db6e078535e73eca625b884d3564badae9", func := "freshet/freshetlaw02.CodeBack", spec := "codeBack", unfollowed := true, recurses := true, apart := false }
def CodeBackSaid : Prop := codeBackRow.holds Try.pinned (OpenSpec.ofChange codeBackSpec)

/-- ITS FALSE NEIGHBOUR: 'it returns false'. Refute it at one input. -/
def codeBackWrong : ChangeSpec := { name := "codeBack", fn := fun _ => fun
  | [d1, d2, d3, d4] => { results := [.lit (.bool false)], args := [d1, d2, d3, d4] }
  | _ => none }
def CodeBackWrongFalsely : Prop := codeBackRow.holds Try.pinned (OpenSpec.ofChange codeBackWrong)

/-- 'freshetlaw02.CodeOnly': WHATEVER THE INPUT: true; the input reads as it did. -/
def codeOnlySpec : ChangeSpec := { name := "codeOnly", fn := fun _ => fun
  | [d] => { results := [.lit (.bool true)], args := [d] }
  | _ => none }
def codeOnlyRow : OpenClaim := { program := "ytdidcjmefinhjaa", sum := "d2f9f766d1538a552eb64f618d67d1db6e078535e73eca625b884d3564badae9", func := "freshet/freshetlaw02.CodeOnly", spec := "codeOnly", unfollowed := true, recurses := true, apart := false }
def CodeOnlySaid : Prop := codeOnlyRow.holds Try.pinned (OpenSpec.ofChange codeOnlySpec)

/-- ITS FALSE NEIGHBOUR: 'it returns false'. Refute it at one input. -/
def codeOnlyWrong : ChangeSpec := { name := "codeOnly", fn := fun _ => fun
  | [d] => { results := [.lit (.bool false)], args := [d] }
  | _ => none }
def CodeOnlyWrongFalsely : Prop := codeOnlyRow.holds Try.pinned (OpenSpec.ofChange codeOnlyWrong)

/- THE SECOND FORM. 'bulk': how many values and letters a reading holds, each counted each time it is reached (what is shared counts as often as it is met; a slice's spare places count too). A statement '..UptoSaid' is the law's where the arguments, and the package variables that the reading takes, are together of bulk at most 1048576: NARROWER than '..Said'. Prove '..Said' where nothing that the law and all that it calls make is longer than what came in: it says more and counts as full. Else prove '..UptoSaid'. A law counts once. -/
mutual
def uptoBulk {H : Type} : DataW H → Nat
  | .lit (.string bytes) => bytes.length + 1
  | .lit _ => 1
  | .nil => 1
  | .ptr d => uptoBulk d + 1
  | .slice elems spare => uptoBulkAll elems + uptoBulkAll spare + 1
  | .agg parts => uptoBulkAll parts + 1
  | .iface _ d => uptoBulk d + 1
  | .map entries => uptoBulkEntries entries + 1
  | .held _ => 1
def uptoBulkAll {H : Type} : List (DataW H) → Nat
  | [] => 0
  | d :: r => uptoBulk d + uptoBulkAll r
def uptoBulkEntries {H : Type} : List (Lit × DataW H) → Nat
  | [] => 0
  | x :: r => uptoBulkEntry x + uptoBulkEntries r
def uptoBulkEntry {H : Type} : Lit × DataW H → Nat
  | (.string bytes, d) => bytes.length + uptoBulk d + 1
  | (_, d) => uptoBulk d + 1
 end
def uptoSmall : (H : Type) → List (DataW H) → Bool := fun _ ds => decide (uptoBulkAll ds ≤ 1048576)
def OpenSpec.upto (s : _root_.Go.ChangeSpec) : _root_.Go.OpenSpec := { _root_.Go.OpenSpec.ofChange s with cond := some uptoSmall }

/-- 'freshetlaw02.CodeUint', WHERE WHAT IT READS IS OF BULK AT MOST 1048576: true; the input reads as it did. -/
def codeUintUptoRow : OpenClaim := { program := "ytdidcjmefinhjaa", sum := "d2f9f766d1538a552eb64f618d67d1db6e078535e73eca625b884d3564badae9", func := "freshet/freshetlaw02.CodeUint", spec := "codeUint", unfollowed := true, recurses := true, apart := false, narrowed := true }
def CodeUintUptoSaid : Prop := codeUintUptoRow.holds Try.pinned (OpenSpec.upto codeUintSpec)

/-- 'freshetlaw02.CodeOrder', WHERE WHAT IT READS IS OF BULK AT MOST 1048576: true; the input reads as it did. -/
def codeOrderUptoRow : OpenClaim := { program := "ytdidcjmefinhjaa", sum := "d2f9f766d1538a552eb64f618d67d1db6e078535e73eca625b884d3564badae9", func := "freshet/freshetlaw02.CodeOrder", spec := "codeOrder", unfollowed := true, recurses := true, apart := false, narrowed := true }
def CodeOrderUptoSaid : Prop := codeOrderUptoRow.holds Try.pinned (OpenSpec.upto codeOrderSpec)

/-- 'freshetlaw02.CodeLess', WHERE WHAT IT READS IS OF BULK AT MOST 1048576: true; the input reads as it did. -/
def codeLessUptoRow : OpenClaim := { program := "ytdidcjmefinhjaa", sum := "d2f9f766d1538a552eb64f618d67d1db6e078535e73eca625b884d3564badae9", func := "freshet/freshetlaw02.CodeLess", spec := "codeLess", unfollowed := true, recurses := true, apart := false, narrowed := true }
def CodeLessUptoSaid : Prop := codeLessUptoRow.holds Try.pinned (OpenSpec.upto codeLessSpec)

/-- 'freshetlaw02.CodeField', WHERE WHAT IT READS IS OF BULK AT MOST 1048576: true; the input reads as it did. -/
def codeFieldUptoRow : OpenClaim := { program := "ytdidcjmefinhjaa", sum := "d2f9f766d1538a552eb64f618d67d1db6e078535e73eca625b884d3564badae9", func := "freshet/freshetlaw02.CodeField", spec := "codeField", unfollowed := true, recurses := true, apart := false, narrowed := true }
def CodeFieldUptoSaid : Prop := codeFieldUptoRow.holds Try.pinned (OpenSpec.upto codeFieldSpec)

/-- 'freshetlaw02.CodeMany', WHERE WHAT IT READS IS OF BULK AT MOST 1048576: true; the input reads as it did. -/
def codeManyUptoRow : OpenClaim := { program := "ytdidcjmefinhjaa", sum := "d2f9f766d1538a552eb64f618d67d1db6e078535e73eca625b884d3564badae9", func := "freshet/freshetlaw02.CodeMany", spec := "codeMany", unfollowed := true, recurses := true, apart := false, narrowed := true }
def CodeManyUptoSaid : Prop := codeManyUptoRow.holds Try.pinned (OpenSpec.upto codeManySpec)

/-- 'freshetlaw02.CodeOrd', WHERE WHAT IT READS IS OF BULK AT MOST 1048576: true; the input reads as it did. -/
def codeOrdUptoRow : OpenClaim := { program := "ytdidcjmefinhjaa", sum := "d2f9f766d1538a552eb64f618d67d1db6e078535e73eca625b884d3564badae9", func := "freshet/freshetlaw02.CodeOrd", spec := "codeOrd", unfollowed := true, recurses := true, apart := false, narrowed := true }
def CodeOrdUptoSaid : Prop := codeOrdUptoRow.holds Try.pinned (OpenSpec.upto codeOrdSpec)

/-- 'freshetlaw02.CodeText', WHERE WHAT IT READS IS OF BULK AT MOST 1048576: true; the input reads as it did. -/
def codeTextUptoRow : OpenClaim := { program := "ytdidcjmefinhjaa", sum := "d2f9f766d1538a552eb64f618d67d1db6e078535e73eca625b884d3564badae9", func := "freshet/freshetlaw02.CodeText", spec := "codeText", unfollowed := true, recurses := true, apart := false, narrowed := true }
def CodeTextUptoSaid : Prop := codeTextUptoRow.holds Try.pinned (OpenSpec.upto codeTextSpec)

/-- 'freshetlaw02.CodeCut', WHERE WHAT IT READS IS OF BULK AT MOST 1048576: true; the input reads as it did. -/
def codeCutUptoRow : OpenClaim := { program := "ytdidcjmefinhjaa", sum := "d2f9f766d1538a552eb64f618d67d1db6e078535e73eca625b884d3564badae9", func := "freshet/freshetlaw02.CodeCut", spec := "codeCut", unfollowed := true, recurses := true, apart := false, narrowed := true }
def CodeCutUptoSaid : Prop := codeCutUptoRow.holds Try.pinned (OpenSpec.upto codeCutSpec)

/-- 'freshetlaw02.CodeBack', WHERE WHAT IT READS IS OF BULK AT MOST 1048576: true; the input reads as it did. -/
def codeBackUptoRow : OpenClaim := { program := "ytdidcjmefinhjaa", sum := "d2f9f766d1538a552eb64f618d67d1db6e078535e73eca625b884d3564badae9", func := "freshet/freshetlaw02.CodeBack", spec := "codeBack", unfollowed := true, recurses := true, apart := false, narrowed := true }
def CodeBackUptoSaid : Prop := codeBackUptoRow.holds Try.pinned (OpenSpec.upto codeBackSpec)

/-- 'freshetlaw02.CodeOnly', WHERE WHAT IT READS IS OF BULK AT MOST 1048576: true; the input reads as it did. -/
def codeOnlyUptoRow : OpenClaim := { program := "ytdidcjmefinhjaa", sum := "d2f9f766d1538a552eb64f618d67d1db6e078535e73eca625b884d3564badae9", func := "freshet/freshetlaw02.CodeOnly", spec := "codeOnly", unfollowed := true, recurses := true, apart := false, narrowed := true }
def CodeOnlyUptoSaid : Prop := codeOnlyUptoRow.holds Try.pinned (OpenSpec.upto codeOnlySpec)

end Rows
end Go.Proofs.Ytdidcjmefinhjaa
