/-
  No cell of these rows narrows 'for every input' (looked for: loops, veiled, ifaces, maps, wideKeys, modest, calm, conditions, laid).
  DERIVED. THE GIVEN ROWS OF THIS SEAT. 11 by the template 'for every input the law returns true; each argument reads behind the call as it read before'; 0 by the template 'total and deterministic' (their statements: YtjlpliapofndcaaTotals.lean).
  GIVEN WITH THE SEED: the statements are not yours to turn. If you find one false, say at which input.
  Laid BY PROGRAM, IN A SANDBOX (cutbox-rows.mjs): the forced cells as the released guide's own fill.sh prints them over the translation 04a96f0d04098978… (all of the seat's roots in one cut). By AI agents, Wed Nov 11 2026. No macro, syntax, notation, axiom, sorry.
-/
import Derived.Test.YtjlpliapofndcaaChecked
import GoSem.Claim
import GoSem.ClaimJoined
import GoSem.ClaimMapViews
import Derived.JoinedTies
import Derived.KernelRfl
namespace Go.Proofs.Ytjlpliapofndcaa
/- THE CELL 'sum', in the pinned program and in every row, IS THE sha256 OF THE DUMP (.gsa) THAT YtjlpliapofndcaaProg.lean LOADS. Nothing in Lean hashes anything: it is a label: what it is worth is what the hold of that sum in a sandbox is worth. -/
noncomputable def Try.pinned : Pinned := { name := "ytjlpliapofndcaa", sum := "04a96f0d0409897803b3cf0455f7d4358b0a75bb54834a6b2b820188c03c565f", checked := Try.checked }
namespace Rows
def none {H : Type} : Left H := { results := [], args := [] }

/-- 'freshetlaw03.KeysEncode': WHATEVER THE INPUT: true; the input reads as it did. -/
def keysEncodeSpec : ChangeSpec := { name := "keysEncode", fn := fun _ => fun
  | [d] => { results := [.lit (.bool true)], args := [d] }
  | _ => none }
def keysEncodeRow : OpenClaim := { program := "ytjlpliapofndcaa", sum := "04a96f0d0409897803b3cf0455f7d4358b0a75bb54834a6b2b820188c03c565f", func := "freshet/freshetlaw03.KeysEncode", spec := "keysEncode", unfollowed := true, recurses := true, apart := false }
def KeysEncodeSaid : Prop := keysEncodeRow.holds Try.pinned (OpenSpec.ofChange keysEncodeSpec)

/-- ITS FALSE NEIGHBOUR: 'it returns false'. Refute it at one input. -/
def keysEncodeWrong : ChangeSpec := { name := "keysEncode", fn := fun _ => fun
  | [d] => { results := [.lit (.bool false)], args := [d] }
  | _ => none }
def KeysEncodeWrongFalsely : Prop := keysEncodeRow.holds Try.pinned (OpenSpec.ofChange keysEncodeWrong)

/-- 'freshetlaw03.KeysDecode': WHATEVER THE INPUT: true; the input reads as it did. -/
def keysDecodeSpec : ChangeSpec := { name := "keysDecode", fn := fun _ => fun
  | [d] => { results := [.lit (.bool true)], args := [d] }
  | _ => none }
def keysDecodeRow : OpenClaim := { program := "ytjlpliapofndcaa", sum := "04a96f0d0409897803b3cf0455f7d4358b0a75bb54834a6b2b820188c03c565f", func := "freshet/freshetlaw03.KeysDecode", spec := "keysDecode", unfollowed := true, recurses := true, apart := false }
def KeysDecodeSaid : Prop := keysDecodeRow.holds Try.pinned (OpenSpec.ofChange keysDecodeSpec)

/-- ITS FALSE NEIGHBOUR: 'it returns false'. Refute it at one input. -/
def keysDecodeWrong : ChangeSpec := { name := "keysDecode", fn := fun _ => fun
  | [d] => { results := [.lit (.bool false)], args := [d] }
  | _ => none }
def KeysDecodeWrongFalsely : Prop := keysDecodeRow.holds Try.pinned (OpenSpec.ofChange keysDecodeWrong)

/-- 'freshetlaw03.KeysRange': WHATEVER THE INPUT: true; the input reads as it did. -/
def keysRangeSpec : ChangeSpec := { name := "keysRange", fn := fun _ => fun
  | [d1, d2] => { results := [.lit (.bool true)], args := [d1, d2] }
  | _ => none }
def keysRangeRow : OpenClaim := { program := "ytjlpliapofndcaa", sum := "04a96f0d0409897803b3cf0455f7d4358b0a75bb54834a6b2b820188c03c565f", func := "freshet/freshetlaw03.KeysRange", spec := "keysRange", unfollowed := true, recurses := true, apart := false }
def KeysRangeSaid : Prop := keysRangeRow.holds Try.pinned (OpenSpec.ofChange keysRangeSpec)

/-- ITS FALSE NEIGHBOUR: 'it returns false'. Refute it at one input. -/
def keysRangeWrong : ChangeSpec := { name := "keysRange", fn := fun _ => fun
  | [d1, d2] => { results := [.lit (.bool false)], args := [d1, d2] }
  | _ => none }
def KeysRangeWrongFalsely : Prop := keysRangeRow.holds Try.pinned (OpenSpec.ofChange keysRangeWrong)

/-- 'freshetlaw03.KeysWithin': WHATEVER THE INPUT: true; the input reads as it did. -/
def keysWithinSpec : ChangeSpec := { name := "keysWithin", fn := fun _ => fun
  | [d1, d2, d3] => { results := [.lit (.bool true)], args := [d1, d2, d3] }
  | _ => none }
def keysWithinRow : OpenClaim := { program := "ytjlpliapofndcaa", sum := "04a96f0d0409897803b3cf0455f7d4358b0a75bb54834a6b2b820188c03c565f", func := "freshet/freshetlaw03.KeysWithin", spec := "keysWithin", unfollowed := true, recurses := true, apart := false }
def KeysWithinSaid : Prop := keysWithinRow.holds Try.pinned (OpenSpec.ofChange keysWithinSpec)

/-- ITS FALSE NEIGHBOUR: 'it returns false'. Refute it at one input. -/
def keysWithinWrong : ChangeSpec := { name := "keysWithin", fn := fun _ => fun
  | [d1, d2, d3] => { results := [.lit (.bool false)], args := [d1, d2, d3] }
  | _ => none }
def KeysWithinWrongFalsely : Prop := keysWithinRow.holds Try.pinned (OpenSpec.ofChange keysWithinWrong)

/-- 'freshetlaw03.KeysNest': WHATEVER THE INPUT: true; the input reads as it did. -/
def keysNestSpec : ChangeSpec := { name := "keysNest", fn := fun _ => fun
  | [d1, d2, d3] => { results := [.lit (.bool true)], args := [d1, d2, d3] }
  | _ => none }
def keysNestRow : OpenClaim := { program := "ytjlpliapofndcaa", sum := "04a96f0d0409897803b3cf0455f7d4358b0a75bb54834a6b2b820188c03c565f", func := "freshet/freshetlaw03.KeysNest", spec := "keysNest", unfollowed := true, recurses := true, apart := false }
def KeysNestSaid : Prop := keysNestRow.holds Try.pinned (OpenSpec.ofChange keysNestSpec)

/-- ITS FALSE NEIGHBOUR: 'it returns false'. Refute it at one input. -/
def keysNestWrong : ChangeSpec := { name := "keysNest", fn := fun _ => fun
  | [d1, d2, d3] => { results := [.lit (.bool false)], args := [d1, d2, d3] }
  | _ => none }
def KeysNestWrongFalsely : Prop := keysNestRow.holds Try.pinned (OpenSpec.ofChange keysNestWrong)

/-- 'freshetlaw03.KeysApart': WHATEVER THE INPUT: true; the input reads as it did. -/
def keysApartSpec : ChangeSpec := { name := "keysApart", fn := fun _ => fun
  | [d1, d2, d3] => { results := [.lit (.bool true)], args := [d1, d2, d3] }
  | _ => none }
def keysApartRow : OpenClaim := { program := "ytjlpliapofndcaa", sum := "04a96f0d0409897803b3cf0455f7d4358b0a75bb54834a6b2b820188c03c565f", func := "freshet/freshetlaw03.KeysApart", spec := "keysApart", unfollowed := true, recurses := true, apart := false }
def KeysApartSaid : Prop := keysApartRow.holds Try.pinned (OpenSpec.ofChange keysApartSpec)

/-- ITS FALSE NEIGHBOUR: 'it returns false'. Refute it at one input. -/
def keysApartWrong : ChangeSpec := { name := "keysApart", fn := fun _ => fun
  | [d1, d2, d3] => { results := [.lit (.bool false)], args := [d1, d2, d3] }
  | _ => none }
def KeysApartWrongFalsely : Prop := keysApartRow.holds Try.pinned (OpenSpec.ofChange keysApartWrong)

/-- 'freshetlaw03.KeysGroup': WHATEVER THE INPUT: true; the input reads as it did. -/
def keysGroupSpec : ChangeSpec := { name := "keysGroup", fn := fun _ => fun
  | [d1, d2] => { results := [.lit (.bool true)], args := [d1, d2] }
  | _ => none }
def keysGroupRow : OpenClaim := { program := "ytjlpliapofndcaa", sum := "04a96f0d0409897803b3cf0455f7d4358b0a75bb54834a6b2b820188c03c565f", func := "freshet/freshetlaw03.KeysGroup", spec := "keysGroup", unfollowed := true, recurses := true, apart := false }
def KeysGroupSaid : Prop := keysGroupRow.holds Try.pinned (OpenSpec.ofChange keysGroupSpec)

/-- ITS FALSE NEIGHBOUR: 'it returns false'. Refute it at one input. -/
def keysGroupWrong : ChangeSpec := { name := "keysGroup", fn := fun _ => fun
  | [d1, d2] => { results := [.lit (.bool false)], args := [d1, d2] }
  | _ => none }
def KeysGroupWrongFalsely : Prop := keysGroupRow.holds Try.pinned (OpenSpec.ofChange keysGroupWrong)

/-- 'freshetlaw03.KeysGroups': WHATEVER THE INPUT: true; the input reads as it did. -/
def keysGroupsSpec : ChangeSpec := { name := "keysGroups", fn := fun _ => fun
  | [d1, d2] => { results := [.lit (.bool true)], args := [d1, d2] }
  | _ => none }
def keysGroupsRow : OpenClaim := { program := "ytjlpliapofndcaa", sum := "04a96f0d0409897803b3cf0455f7d4358b0a75bb54834a6b2b820188c03c565f", func := "freshet/freshetlaw03.KeysGroups", spec := "keysGroups", unfollowed := true, recurses := true, apart := false }
def KeysGroupsSaid : Prop := keysGroupsRow.holds Try.pinned (OpenSpec.ofChange keysGroupsSpec)

/-- ITS FALSE NEIGHBOUR: 'it returns false'. Refute it at one input. -/
def keysGroupsWrong : ChangeSpec := { name := "keysGroups", fn := fun _ => fun
  | [d1, d2] => { results := [.lit (.bool false)], args := [d1, d2] }
  | _ => none }
def KeysGroupsWrongFalsely : Prop := keysGroupsRow.holds Try.pinned (OpenSpec.ofChange keysGroupsWrong)

/-- 'freshetlaw03.KeysCmp': WHATEVER THE INPUT: true; the input reads as it did. -/
def keysCmpSpec : ChangeSpec := { name := "keysCmp", fn := fun _ => fun
  | [d1, d2] => { results := [.lit (.bool true)], args := [d1, d2] }
  | _ => none }
def keysCmpRow : OpenClaim := { program := "ytjlpliapofndcaa", sum := "04a96f0d0409897803b3cf0455f7d4358b0a75bb54834a6b2b820188c03c565f", func := "freshet/freshetlaw03.KeysCmp", spec := "keysCmp", unfollowed := true, recurses := true, apart := false }
def KeysCmpSaid : Prop := keysCmpRow.holds Try.pinned (OpenSpec.ofChange keysCmpSpec)

/-- ITS FALSE NEIGHBOUR: 'it returns false'. Refute it at one input. -/
def keysCmpWrong : ChangeSpec := { name := "keysCmp", fn := fun _ => fun
  | [d1, d2] => { results := [.lit (.bool false)], args := [d1, d2] }
  | _ => none }
def KeysCmpWrongFalsely : Prop := keysCmpRow.holds Try.pinned (OpenSpec.ofChange keysCmpWrong)

/-- 'freshetlaw03.KeysBack': WHATEVER THE INPUT: true; the input reads as it did. -/
def keysBackSpec : ChangeSpec := { name := "keysBack", fn := fun _ => fun
  | [d1, d2] => { results := [.lit (.bool true)], args := [d1, d2] }
  | _ => none }
def keysBackRow : OpenClaim := { program := "ytjlpliapofndcaa", sum := "04a96f0d0409897803b3cf0455f7d4358b0a75bb54834a6b2b820188c03c565f", func := "freshet/freshetlaw03.KeysBack", spec := "keysBack", unfollowed := true, recurses := true, apart := false }
def KeysBackSaid : Prop := keysBackRow.holds Try.pinned (OpenSpec.ofChange keysBackSpec)

/-- ITS FALSE NEIGHBOUR: 'it returns false'. Refute it at one input. -/
def keysBackWrong : ChangeSpec := { name := "keysBack", fn := fun _ => fun
  | [d1, d2] => { results := [.lit (.bool false)], args := [d1, d2] }
  | _ => none }
def KeysBackWrongFalsely : Prop := keysBackRow.holds Try.pinned (OpenSpec.ofChange keysBackWrong)

/-- 'freshetlaw03.KeysOrder': WHATEVER THE INPUT: true; the input reads as it did. -/
def keysOrderSpec : ChangeSpec := { name := "keysOrder", fn := fun _ => fun
  | [d1, d2, d3] => { results := [.lit (.bool true)], args := [d1, d2, d3] }
  | _ => none }
def keysOrderRow : OpenClaim := { program := "ytjlpliapofndcaa", sum := "04a96f0d0409897803b3cf0455f7d4358b0a75bb54834a6b2b820188c03c565f", func := "freshet/freshetlaw03.KeysOrder", spec := "keysOrder", unfollowed := true, recurses := true, apart := false }
def KeysOrderSaid : Prop := keysOrderRow.holds Try.pinned (OpenSpec.ofChange keysOrderSpec)

/-- ITS FALSE NEIGHBOUR: 'it returns false'. Refute it at one input. -/
def keysOrderWrong : ChangeSpec := { name := "keysOrder", fn := fun _ => fun
  | [d1, d2, d3] => { results := [.lit (.bool false)], args := [d1, d2, d3] }
  | _ => none }
def KeysOrderWrongFalsely : Prop := keysOrderRow.holds Try.pinned (OpenSpec.ofChange keysOrderWrong)

/- THE SECOND FORM. 'bulk': how many values and letters a reading holds, each counted each time it is reached (what is shared counts as often as it is met; a slice's spare places count too). A statement '..UptoSaid' is the law's where the arguments, and the package variables that the reading takes, are together of bulk at most 1048576: NARROWER than '..Said'. Prove '..Said' where nothing that the law and all that it calls make is longer than what came in: it says more and counts as full. Else prove '..UptoSaid'. A law counts once. -/
mutual
def uptoBulk {H : Type} : DataW H → Nat
  | .lit (.string bytes) => bytes.length + 1
  | .lit _ => 1
  | .nil => 1
  | .ptr d => uptoBulk d + 1
  | .slice elems spare => uptoBulkAll elems + uptoBulkAll spare + 1
  | .agg parts => uptoBulkAll parts + 1
  | .iface _ d => uptoBulk d + 1
  | .map entries => uptoBulkEntries entries + 1
  | .held _ => 1
def uptoBulkAll {H : Type} : List (DataW H) → Nat
  | [] => 0
  | d :: r => uptoBulk d + uptoBulkAll r
def uptoBulkEntries {H : Type} : List (Lit × DataW H) → Nat
  | [] => 0
  | x :: r => uptoBulkEntry x + uptoBulkEntries r
def uptoBulkEntry {H : Type} : Lit × DataW H → Nat
  | (.string bytes, d) => bytes.length + uptoBulk d + 1
  | (_, d) => uptoBulk d + 1
 end
def uptoSmall : (H : Type) → List (DataW H) → Bool := fun _ ds => decide (uptoBulkAll ds ≤ 1048576)
def OpenSpec.upto (s : _root_.Go.ChangeSpec) : _root_.Go.OpenSpec := { _root_.Go.OpenSpec.ofChange s with cond := some uptoSmall }

/-- 'freshetlaw03.KeysEncode', WHERE WHAT IT READS IS OF BULK AT MOST 1048576: true; the input reads as it did. -/
def keysEncodeUptoRow : OpenClaim := { program := "ytjlpliapofndcaa", sum := "04a96f0d0409897803b3cf0455f7d4358b0a75bb54834a6b2b820188c03c565f", func := "freshet/freshetlaw03.KeysEncode", spec := "keysEncode", unfollowed := true, recurses := true, apart := false, narrowed := true }
def KeysEncodeUptoSaid : Prop := keysEncodeUptoRow.holds Try.pinned (OpenSpec.upto keysEncodeSpec)

/-- 'freshetlaw03.KeysDecode', WHERE WHAT IT READS IS OF BULK AT MOST 1048576: true; the input reads as it did. -/
def keysDecodeUptoRow : OpenClaim := { program := "ytjlpliapofndcaa", sum := "04a96f0d0409897803b3cf0455f7d4358b0a75bb54834a6b2b820188c03c565f", func := "freshet/freshetlaw03.KeysDecode", spec := "keysDecode", unfollowed := true, recurses := true, apart := false, narrowed := true }
def KeysDecodeUptoSaid : Prop := keysDecodeUptoRow.holds Try.pinned (OpenSpec.upto keysDecodeSpec)

/-- 'freshetlaw03.KeysRange', WHERE WHAT IT READS IS OF BULK AT MOST 1048576: true; the input reads as it did. -/
def keysRangeUptoRow : OpenClaim := { program := "ytjlpliapofndcaa", sum := "04a96f0d0409897803b3cf0455f7d4358b0a75bb54834a6b2b820188c03c565f", func := "freshet/freshetlaw03.KeysRange", spec := "keysRange", unfollowed := true, recurses := true, apart := false, narrowed := true }
def KeysRangeUptoSaid : Prop := keysRangeUptoRow.holds Try.pinned (OpenSpec.upto keysRangeSpec)

/-- 'freshetlaw03.KeysWithin', WHERE WHAT IT READS IS OF BULK AT MOST 1048576: true; the input reads as it did. -/
def keysWithinUptoRow : OpenClaim := { program := "ytjlpliapofndcaa", sum := "04a96f0d0409897803b3cf0455f7d4358b0a75bb54834a6b2b820188c03c565f", func := "freshet/freshetlaw03.KeysWithin", spec := "keysWithin", unfollowed := true, recurses := true, apart := false, narrowed := true }
def KeysWithinUptoSaid : Prop := keysWithinUptoRow.holds Try.pinned (OpenSpec.upto keysWithinSpec)

/-- 'freshetlaw03.KeysNest', WHERE WHAT IT READS IS OF BULK AT MOST 1048576: true; the input reads as it did. -/
def keysNestUptoRow : OpenClaim := { program := "ytjlpliapofndcaa", sum := "04a96f0d0409897803b3cf0455f7d4358b0a75bb54834a6b2b820188c03c565f", func := "freshet/freshetlaw03.KeysNest", spec := "keysNest", unfollowed := true, recurses := true, apart := false, narrowed := true }
def KeysNestUptoSaid : Prop := keysNestUptoRow.holds Try.pinned (OpenSpec.upto keysNestSpec)

/-- 'freshetlaw03.KeysApart', WHERE WHAT IT READS IS OF BULK AT MOST 1048576: true; the input reads as it did. -/
def keysApartUptoRow : OpenClaim := { program := "ytjlpliapofndcaa", sum := "04a96f0d0409897803b3cf0455f7d4358b0a75bb54834a6b2b820188c03c565f", func := "freshet/freshetlaw03.KeysApart", spec := "keysApart", unfollowed := true, recurses := true, apart := false, narrowed := true }
def KeysApartUptoSaid : Prop := keysApartUptoRow.holds Try.pinned (OpenSpec.upto keysApartSpec)

/-- 'freshetlaw03.KeysGroup', WHERE WHAT IT READS IS OF BULK AT MOST 1048576: true; the input reads as it did. -/
def keysGroupUptoRow : OpenClaim := { program := "ytjlpliapofndcaa", sum := "04a96f0d0409897803b3cf0455f7d4358b0a75bb54834a6b2b820188c03c565f", func := "freshet/freshetlaw03.KeysGroup", spec := "keysGroup", unfollowed := true, recurses := true, apart := false, narrowed := true }
def KeysGroupUptoSaid : Prop := keysGroupUptoRow.holds Try.pinned (OpenSpec.upto keysGroupSpec)

/-- 'freshetlaw03.KeysGroups', WHERE WHAT IT READS IS OF BULK AT MOST 1048576: true; the input reads as it did. -/
def keysGroupsUptoRow : OpenClaim := { program := "ytjlpliapofndcaa", sum := "04a96f0d0409897803b3cf0455f7d4358b0a75bb54834a6b2b820188c03c565f", func := "freshet/freshetlaw03.KeysGroups", spec := "keysGroups", unfollowed := true, recurses := true, apart := false, narrowed := true }
def KeysGroupsUptoSaid : Prop := keysGroupsUptoRow.holds Try.pinned (OpenSpec.upto keysGroupsSpec)

/-- 'freshetlaw03.KeysCmp', WHERE WHAT IT READS IS OF BULK AT MOST 1048576: true; the input reads as it did. -/
def keysCmpUptoRow : OpenClaim := { program := "ytjlpliapofndcaa", sum := "04a96f0d0409897803b3cf0455f7d4358b0a75bb54834a6b2b820188c03c565f", func := "freshet/freshetlaw03.KeysCmp", spec := "keysCmp", unfollowed := true, recurses := true, apart := false, narrowed := true }
def KeysCmpUptoSaid : Prop := keysCmpUptoRow.holds Try.pinned (OpenSpec.upto keysCmpSpec)

/-- 'freshetlaw03.KeysBack', WHERE WHAT IT READS IS OF BULK AT MOST 1048576: true; the input reads as it did. -/
def keysBackUptoRow : OpenClaim := { program := "ytjlpliapofndcaa", sum := "04a96f0d0409897803b3cf0455f7d4358b0a75bb54834a6b2b820188c03c565f", func := "freshet/freshetlaw03.KeysBack", spec := "keysBack", unfollowed := true, recurses := true, apart := false, narrowed := true }
def KeysBackUptoSaid : Prop := keysBackUptoRow.holds Try.pinned (OpenSpec.upto keysBackSpec)

/-- 'freshetlaw03.KeysOrder', WHERE WHAT IT READS IS OF BULK AT MOST 1048576: true; the input reads as it did. -/
def keysOrderUptoRow : OpenClaim := { program := "ytjlpliapofndcaa", sum := "04a96f0d0409897803b3cf0455f7d4358b0a75bb54834a6b2b820188c03c565f", func := "freshet/freshetlaw03.KeysOrder", spec := "keysOrder", unfollowed := true, recurses := true, apart := false, narrowed := true }
def KeysOrderUptoSaid : Prop := keysOrderUptoRow.holds Try.pinned (OpenSpec.upto keysOrderSpec)

end Rows
end Go.Proofs.Ytjlpliapofndcaa
