/- Texts of this claim, joined by a program of this session (wip/pack.py): BlockW, BlockX, BlockB. -/
import Derived.Lib.AppendStr
import Derived.Deep.AppendLies
import Derived.Deep.RegionHeld3
import Derived.Deep.RegionLaw
import Derived.BigQuiet
import Derived.Test.YtaigmemmgjlhgaaQTableBuild3
import Derived.Test.YtaigmemmgjlhgaaQTableBuild5
import Derived.Test.YtaigmemmgjlhgaaQTableBuild15
theorem qa17 {α : Type _} (l : List α) (i : Nat) (x : α) : l.toArray.setIfInBounds i x = (l.set i x).toArray := by simp
theorem qb17 {α : Type _} (l : List α) (x y : α) : (x :: l).set 0 y = y :: l := rfl
theorem qc17 {α : Type _} (l : List α) (n : Nat) (x y : α) : (x :: l).set (n + 1) y = x :: l.set n y := rfl
-- BlockW
namespace Go.Proofs.Ytaigmemmgjlhgaa.Block
open Go.RowKit Aid Txt Print Go.Proofs.YtaigmemmgjlhgaaW.PrintWords
theorem infoU8 : (Try.prog.info? 5).map (fun i => (i.zero, i.size, i.bytes)) = some (some (.int .u8 0), 1, 1) := by kernel_rfl
structure W3 (w0 w : World) (b1 b2 b3 : Nat) (v : Value) (xs last : ByteArray) : Prop where
 out : Blk w b1 55 #[v]
 lst : Blk w b2 9 #[.string last]
 ptr : Blk w b3 95 #[.pointer (some ⟨b1, 0, none⟩)]
 row : w.ownsRow w0.heap.size 5 1 v xs.size (Lib.strCells xs)
 g1 : w0.heap.size ≤ b1
 g2 : w0.heap.size ≤ b2
 g3 : w0.heap.size ≤ b3
 low : Below w0.heap.size w0 w
section
variable {w0 w w' : World} {b1 b2 b3 : Nat} {v : Value} {xs last : ByteArray}
theorem W3.below (h : W3 w0 w b1 b2 b3 v xs last) (hb : Below w.heap.size w w') : W3 w0 w' b1 b2 b3 v xs last :=
 ⟨h.out.below hb h.out.lt, h.lst.below hb h.lst.lt, h.ptr.below hb h.ptr.lt, h.row.kept (q1y hb none) (by cases e : v.ownBlock with | none => exact .inl rfl | some k => exact .inr (by simp)), h.g1, h.g2, h.g3, q0d h.low hb⟩
theorem W3.alloc (h : W3 w0 w b1 b2 b3 v xs last) (o : Obj) : W3 w0 (w.alloc o) b1 b2 b3 v xs last := h.below ((Below.refl _ _).alloc (Nat.le_refl _) o)
theorem W3.drewN (h : W3 w0 w b1 b2 b3 v xs last) (n : Nat) : W3 w0 (w.drewN n) b1 b2 b3 v xs last := h.below (q0z (Below.refl _ _) n)
theorem W3.drew (h : W3 w0 w b1 b2 b3 v xs last) : W3 w0 w.drew b1 b2 b3 v xs last := h.below (Below.refl _ _).drew
theorem own_far {w w' : World} {base : Nat} {e : TypeId} {size n : Nat} {v : Value} {xs : List Value} (h : w.ownsRow base e size v n xs) {g : Nat} (hg : w.grownBy w' (some g)) (hne : v.ownBlock ≠ some g) : w'.ownsRow base e size v n xs := h.kept hg (.inr hne)
theorem W3.put (h : W3 w0 w b1 b2 b3 v xs last) {s : ByteArray} {v' : Value} (ho : w'.ownsRow w0.heap.size 5 1 v' (xs.size + s.size) (Lib.strCells xs ++ Lib.strCells s)) (hg : w.grownBy w' v.ownBlock) (key : ByteArray) :
  W3 w0 ((w'.setCell ⟨b1, 0, none⟩ v').setCell ⟨b2, 0, none⟩ (.string key)) b1 b2 b3 v' (xs ++ s) key := by
 have n1 := q12 h.row h.out (by decide)
 have n2 := q12 h.row h.lst (by decide)
 have n3 := q12 h.row h.ptr (by decide)
 have o1 := h.out.grown hg (fun e => n1 e.symm)
 have o2 := h.lst.grown hg (fun e => n2 e.symm)
 have o3 := h.ptr.grown hg (fun e => n3 e.symm)
 have m1 := q12 ho o1 (by decide)
 have m2 := q12 ho o2 (by decide)
 have n12 : b1 ≠ b2 := h.out.ne_ h.lst (by decide)
 have n13 : b1 ≠ b3 := h.out.ne_ h.ptr (by decide)
 have n23 : b2 ≠ b3 := h.lst.ne_ h.ptr (by decide)
 have ob : ∀ k, v.ownBlock = some k → w0.heap.size ≤ k := fun k hk => (h.row.lt k hk).1
 have low1 : Below w0.heap.size w0 w' := by
  cases e : v.ownBlock with
  | none => rw [e] at hg; exact ⟨hg.os.trans h.low.os, hg.tape.trans h.low.tape, hg.output.trans h.low.output, Nat.le_trans h.low.size hg.size, fun i hi => (hg.block i (Nat.lt_of_lt_of_le hi h.low.size) (by simp)).trans (h.low.block i hi)⟩
  | some k => rw [e] at hg; exact q0x h.low (ob k e) hg
 have k1 := only_set (only_refl w' (some b1)) (p := ⟨b1, 0, none⟩) (.inl rfl) v'
 have k2 := only_set (only_refl (w'.setCell ⟨b1, 0, none⟩ v') (some b2)) (p := ⟨b2, 0, none⟩) (.inl rfl) (.string key)
 have hcells : Lib.strCells xs ++ Lib.strCells s = Lib.strCells (xs ++ s) := by simp [Lib.strCells]
 refine ⟨((o1.set_ 0 v').far n12 _), (o2.far (Ne.symm n12) _).set_ 0 _, (o3.far (Ne.symm n13) _).far (Ne.symm n23) _, ?_, h.g1, h.g2, h.g3, q0x (q0x low1 h.g1 k1) h.g2 k2⟩
 rw [← hcells, ByteArray.size_append]
 exact own_far (own_far ho k1 m1) k2 m2
theorem W3.kept (h : W3 w0 w b1 b2 b3 v xs last) {g : Nat} {key : ByteArray} {x y z : Value} (hI : Blk w g 28 #[.string key, x, y, z]) (hg : w.grownBy w' v.ownBlock) :
  w'.cell? ⟨g, 0, none⟩ = some (.string key) ∧ w'.cell? ⟨b3, 0, none⟩ = some (.pointer (some ⟨b1, 0, none⟩)) :=
 ⟨((hI.grown hg (fun e => q12 h.row hI (by decide) e.symm)).cell 0).trans rfl, ((h.ptr.grown hg (fun e => q12 h.row h.ptr (by decide) e.symm)).cell 0).trans rfl⟩
end
theorem own_slice {w : World} {base : Nat} {e : TypeId} {size n : Nat} {v : Value} {xs : List Value} (h : w.ownsRow base e size v n xs) : ∃ A m c, v = .slice A m c := by
 rcases h.2 with ⟨rfl, _⟩ | ⟨g, cap, cur, rfl, _⟩
 ·exact ⟨_, _, _, rfl⟩
 ·exact ⟨_, _, _, rfl⟩
theorem q1j {P : Program} {ops : Array Oper} {o : Oper} {a : Act} {w : World} {K : Act → World → Prop} {Q : Exit → Act → World → Prop} {E : Prop} (hgd : o.guard = none) (sl x : Operand) (t u : TypeId)
  (ho : o.op = .call { callee := .builtin .append, args := #[sl, x], argTypes := #[t, u] })
  (base : Nat) (e : TypeId) (i : TypeInfo) (ht : P.underlying t = some (.slice e)) (hu : P.underlying u = some .string) (hi : P.info? e = some i) (hz : i.zero = some (.int .u8 0))
  (hsize : i.size = 1) (hby : i.bytes = 1)
  (v : Value) (n : Nat) (xs : List Value) (hs : a.eval sl = v) (hown : w.ownsRow base e 1 v n xs) (s : ByteArray) (hx : a.eval x = .string s)
  (h63 : n + s.size ≤ maxLen) (hbytes : n + s.size ≤ 140737488355328) (hbase : base ≤ w.heap.size)
  (h : ∀ v' w', w'.ownsRow base e 1 v' (n + s.size) (xs ++ Lib.strCells s) → w.grownBy w' v.ownBlock → K (a.put o.dst v') w') :
  if Region.wanted o (yielded ops a.tmps) = true then Oper.wp P o a w K Q else E := by
 have hw : Region.wanted o (yielded ops a.tmps) = true := by simp [Region.wanted, hgd]
 rw [if_pos hw]
 obtain ⟨v', w', hr, h2, h3, h4⟩ := Lib.run_append_own_string (P := P) w base t u o.type e i ht hu hi hz hsize hby v n xs hown s h63 hbytes hbase
 unfold Oper.wp execOp
 simp only [ho, resolve, invoke, builtin, Sem.run_bind, Sem.run_pure, Result.andThen_ok, List.map_toArray, List.map_cons, List.map_nil, hs, hx, hr]
 exact h v' w' h2 h3
theorem conv_str {w : World} {base n : Nat} {v : Value} (s : ByteArray) (h : w.ownsRow base 5 1 v n (Lib.strCells s)) : (convert 55 9 v).run Try.prog w = .ok (.string s) w := by
 have e : Lib.strCells s = nums .u8 ((L s).map fun c => (c.toNat : Int)) := by simp [Lib.strCells, nums]
 rw [e] at h
 have h2 := q14 (P := Try.prog) Try.underlying55 Try.underlying5 Try.underlying9 h
 have e2 : strOfNums ((L s).map fun c => (c.toNat : Int)) = s := by
  apply L_inj
  rw [L_nums, List.map_map]
  have : ((fun n : Int => UInt8.ofNat n.toNat) ∘ fun c : UInt8 => (c.toNat : Int)) = id := by funext c; simp
  rw [this, List.map_id]
 rw [e2] at h2
 exact h2
theorem conv_one (c : UInt8) (w : World) : (convert 55 9 (.slice (some ⟨w.heap.size, 0, none⟩) 1 1)).run Try.prog (w.alloc (.cells #[.int .u8 (c.toNat : Int)] 5)) = .ok (.string (B [c])) (w.alloc (.cells #[.int .u8 (c.toNat : Int)] 5)) := by
 refine conv_str (base := 0) (n := 1) (B [c]) ⟨rfl, .inr ⟨w.heap.size, 1, #[.int .u8 (c.toNat : Int)], rfl, Nat.zero_le _, heap_alloc_new w _, Nat.le_refl _, by unfold maxLen; omega, rfl, rfl⟩⟩
theorem wrap_u8 (x : Int) : IntKind.u8.wrap x = ((UInt8.ofNat (x % 256).toNat).toNat : Int) := by
 have h : IntKind.u8.wrap x = x % 256 := by simp only [IntKind.wrap, IntKind.bits, IntKind.signed, Bool.false_and, Bool.false_eq_true, if_false]; omega
 rw [h, UInt8.toNat_ofNat']
 omega
end Go.Proofs.Ytaigmemmgjlhgaa.Block
-- BlockX
namespace Go.Proofs.Ytaigmemmgjlhgaa.Block
open Go.RowKit Aid Txt Print Go.Proofs.YtaigmemmgjlhgaaW.PrintWords Go.Proofs.YtaigmemmgjlhgaaW.PrintLast Go.Proofs.YtaigmemmgjlhgaaW.PrintMore
set_option linter.unusedVariables false
set_option linter.unusedSimpArgs false
def rowOf (key : ByteArray) (seq kind : Int) (value : ByteArray) : PBlock.Row := ⟨L key, seq.toNat, kind, L value⟩
def tabT7 : Bool × List (List Nat × List Nat) := (true, [([], []), ([], []), ([1], [1]), ([2], [2]), ([], []), ([3, 4], [3, 4]), ([], []), ([6], [6]), ([0, 0, 1, 2, 3, 4, 5], [0]), ([8, 5, 5, 0, 1, 2, 3, 4, 5], [5, 8]), ([7, 9, 0, 1, 2, 3, 4, 5, 6, 7, 8, 9], [7])])
def tabB7 : List Nat := [0, 0, 2, 6, 0, 30, 0, 64, 63, 319, 1023]
theorem tabW7 : rtab .any (opsOf Try.f80 7) = tabT7 := by kernel_rfl
theorem bitsW7 : waitsOk tabT7.2 tabB7 = true := by kernel_rfl
def tabT4 : Bool × List (List Nat × List Nat) := (true, [([], []), ([0], [0]), ([1], [1]), ([], []), ([3], [3]), ([], []), ([4, 5], [4, 5]), ([6, 2], [6]), ([2, 7], [2, 7]), ([], []), ([9], [9]), ([10, 7], [10]), ([8, 11], [8, 11]), ([], []), ([13], [13]), ([14], [14]), ([15], [15]), ([16], [16]), ([12, 17], [12, 17]), ([18, 11, 0, 1, 2, 3, 4, 5, 6, 7, 8, 9, 10, 11, 12, 13, 14, 15, 16, 17, 18], [18])])
def tabB4 : List Nat := [0, 1, 3, 0, 8, 0, 56, 127, 255, 0, 512, 1791, 4095, 0, 8192, 24576, 57344, 122880, 262143, 524287]
theorem tabW4 : rtab .any (opsOf Try.f80 4) = tabT4 := by kernel_rfl
theorem bitsW4 : waitsOk tabT4.2 tabB4 = true := by kernel_rfl
set_option maxRecDepth 100000 in
set_option maxHeartbeats 8000000 in
theorem write_first (w0 w : World) (b1 b2 b3 : Nat) (v : Value) (xs last a0_0 a0_3 : ByteArray) (a0_1 a0_2 : Int)
  (h : W3 w0 w b1 b2 b3 v xs last) (hk : a0_0.size ≤ 520) (hv : a0_3.size ≤ 2048) (hx : xs.size ≤ 100000) (s0 : 0 ≤ a0_1) (s1 : a0_1 < 18446744073709551616) :
  Calls Try.prog 80 #[.agg #[.string a0_0, .int .u64 a0_1, .int .i64 a0_2, .string a0_3], .bool true, .pointer (some ⟨b2, 0, none⟩), .pointer (some ⟨b3, 0, none⟩)] w fun e w' => e = .returned (.tuple #[]) ∧
   ∃ v', W3 w0 w' b1 b2 b3 v' (xs ++ B (PBlock.rowEnc (rowOf a0_0 a0_1 a0_2 a0_3) [])) a0_0 := by
 have HW := Lib.hid h
 have hlt2 := h.lst.lt
 have c2 := (h.lst.cell 0).trans rfl
 have c3 := (h.ptr.cell 0).trans rfl
 clear h
 go_enter Try.func80, Try.ntmps80
 go_wp2_with fail
 obtain ⟨x5_2, hx5⟩ : ∃ x : Int, x = 0 := ⟨0, rfl⟩
 obtain ⟨nn, hN⟩ : ∃ n : Nat, (0 : Nat) = n := ⟨_, rfl⟩
 have hn : x5_2 = (nn : Int) := by rw [← hN]; exact hx5
 rw [show Value.int .i64 0 = Value.int .i64 x5_2 by rw [hx5]]
 have hnk : nn ≤ a0_0.size := by omega
 have BK169 := q04.mk (Blk.new w 28 #[.string a0_0, .int .u64 a0_1, .int .i64 a0_2, .string a0_3])
 have HB := q04.mk ((Below.refl w.heap.size w).alloc (Nat.le_refl _) (.cells #[.string a0_0, .int .u64 a0_1, .int .i64 a0_2, .string a0_3] 28))
 have GE169 : q04 (w.heap.size ≤ w.heap.size) := ⟨Nat.le_refl _⟩
 have hroom : w.heap.size = w.heap.size := rfl
 generalize hgb : w.heap.size = gb169 at BK169 GE169 ⊢
 generalize w.alloc _ = wc at BK169 HB ⊢
 clear c2 c3 hx5
 rw [hgb] at hlt2
 obtain ⟨k15, A15⟩ : ∃ k, code_PutUint.f k (IntKind.u64.wrap x5_2) = some (B (PCode.putUint nn)) := by
  rw [show IntKind.u64.wrap x5_2 = (nn : Int) by rw [hn]; exact q0o (by omega) (by omega)]
  exact (code_put nn (by omega)).rounds
 obtain ⟨k18, A18⟩ : ∃ k, code_PutField.f k (a0_0.extract (x5_2 : Int).toNat a0_0.size) = some (B (PCode.putField ((L a0_0).drop nn))) := by
  have e := (code_putField (a0_0.extract (x5_2 : Int).toNat a0_0.size) (by rw [ByteArray.size_extract]; omega)).rounds
  rw [hn, Int.toNat_natCast, L_drop] at e
  rw [hn, Int.toNat_natCast]
  exact e
 obtain ⟨k20, A20⟩ : ∃ k, code_PutUint.f k a0_1 = some (B (PCode.putUint a0_1.toNat)) := by
  obtain ⟨m, hm⟩ := Int.eq_ofNat_of_zero_le s0
  subst hm
  exact (code_put m (by omega)).rounds
 have z1 : (B (PCode.putUint nn)).size ≤ 10 := by rw [q0n]; exact PCode.putUint_length_ten (by omega)
 have z2 : (B (PCode.putField ((L a0_0).drop nn))).size ≤ 530 := by
  have e1 : ((L a0_0).drop nn).length ≤ 520 := by rw [List.length_drop, q0g]; omega
  have := PCode.putUint_length_ten (n := ((L a0_0).drop nn).length) (by omega)
  rw [q0n]; unfold PCode.putField; rw [List.length_append]; omega
 have z3 : (B (PCode.putUint a0_1.toNat)).size ≤ 10 := by rw [q0n]; exact PCode.putUint_length_ten (by omega)
 have P4 := fun w' => putField_any a0_3 (by omega) w'
 have z4 : (B (PCode.putField (L a0_3))).size ≤ 2060 := by
  have := PCode.putUint_length_ten (n := (L a0_3).length) (by rw [q0g]; omega)
  rw [q0n]; unfold PCode.putField; rw [List.length_append, q0g] at *; omega
 obtain ⟨y173, Ny173⟩ : ∃ y : List Int, y = [(a0_2) % 256] := ⟨_, rfl⟩
 have z5 : (strOfNums y173).size = 1 := by rw [Ny173]; rfl
 have HE : B (PBlock.rowEnc (rowOf a0_0 a0_1 a0_2 a0_3) []) = (((B (PCode.putUint nn) ++ B (PCode.putField ((L a0_0).drop nn))) ++ B (PCode.putUint a0_1.toNat)) ++ strOfNums y173) ++ (if a0_2 = 1 then B (PCode.putField (L a0_3)) else B []) := by
  rw [Ny173]
  apply L_inj
  simp only [q0t, L_B]
  unfold PBlock.rowEnc rowOf
  dsimp only
  rw [show PBlock.common [] (L a0_0) = nn by rw [← hN]; cases L a0_0 <;> rfl, L_nums]
  simp only [List.append_assoc]
  congr 3
  by_cases e : a0_2 = 1
  ·rw [if_pos e, if_pos e]; rfl
  ·rw [if_neg e, if_neg e]; rfl
 replace HE := Lib.hid HE
 replace Ny173 := q04.mk Ny173
 replace A15 := q04.mk A15
 replace A18 := q04.mk A18
 replace A20 := q04.mk A20
 generalize B (PCode.putUint nn) = t170 at A15 z1 HE
 generalize B (PCode.putField ((L a0_0).drop nn)) = t171 at A18 z2 HE
 generalize B (PCode.putUint a0_1.toNat) = t172 at A20 z3 HE
 generalize B (PCode.putField (L a0_3)) = t176 at P4 z4 HE
 have c19b2 : (9223372036854775807 < t170.size + t171.size) = False := eq_false (by omega)
 have c21b2 : (9223372036854775807 < (t170 ++ t171).size + t172.size) = False := eq_false (by rw [ByteArray.size_append]; omega)
 have c21b6 : (9223372036854775807 < t170.size + t171.size + t172.size) = False := eq_false (by omega)
 have c22b2 : (9223372036854775807 < ((t170 ++ t171) ++ t172).size + (strOfNums y173).size) = False := eq_false (by rw [ByteArray.size_append, ByteArray.size_append]; omega)
 have c22b6 : (9223372036854775807 < t170.size + t171.size + t172.size + (strOfNums y173).size) = False := eq_false (by omega)
 have p0 : 0 ≤ x5_2 := by omega
 have p1 : x5_2 ≤ (a0_0.size : Int) := by omega
 have p0b : decide (0 ≤ x5_2) = true := decide_eq_true p0
 have p1b : decide (x5_2 ≤ (a0_0.size : Int)) = true := decide_eq_true p1
 have HP4 := Lib.hid P4
 have HZ := Lib.hid (show t170.size ≤ 10 ∧ t171.size ≤ 530 ∧ t172.size ≤ 10 ∧ t176.size ≤ 2060 ∧ (strOfNums y173).size = 1 from ⟨z1, z2, z3, z4, z5⟩)
 have HK := Lib.hid (show a0_0.size ≤ 520 ∧ xs.size ≤ 100000 from ⟨hk, hx⟩)
 clear P4 z1 z2 z3 z4 z5 hk hx hn hN hnk
 have n0_ := q04.mk (q08 BK169.out)
 have n1_ := q04.mk (q01 HB.out)
 clear BK169
 clear HB
 have BK169 := n0_
 have HB := n1_
 clear n0_ n1_
 refine start_ (n := 20) (S := fun w' => w'.cell? ⟨gb169, 0, none⟩ = some (.string a0_0) ∧ w'.cell? ⟨gb169, 1, none⟩ = some (.int .u64 a0_1) ∧ w'.cell? ⟨gb169, 2, none⟩ = some (.int .i64 a0_2) ∧ w'.cell? ⟨gb169, 3, none⟩ = some (.string a0_3)) (ds := []) #[false, false, false, false, false, false, false, false, false, false, false, false, false, false, false, false, false, false, false, false] (by kernel_rfl) rfl rfl ⟨(q03 BK169.out 0).trans rfl, (q03 BK169.out 1).trans rfl, (q03 BK169.out 2).trans rfl, (q03 BK169.out 3).trans rfl⟩ (fun hHeld => ?_); refine q16 tabW4 bitsW4 (fun HT_ HW_ => ?_)
 generalize wc.drew = w26 at BK169 HB hHeld ⊢
 refine pure_ (i := 0) (N := some 14) (v := ?_) (a' := ?_) #[true, false, false, false, false, false, false, false, false, false, false, false, false, false, false, false, false, false, false, false] rfl rfl (q0j HT_.out (by kernel_rfl)) (fun _ _ _ h => h) (Or.inl ⟨by rfl, ?_⟩) ?_ ?_
 rotate_left
 ·intro w'
  go_simp
  with_reducible rfl
 rotate_left
 ·simp only [Act.put, qa17, qb17, qc17, i64_w, i32_w]
  rfl
 refine pure_ (i := 1) (N := some 15) (v := ?_) (a' := ?_) #[true, true, false, false, false, false, false, false, false, false, false, false, false, false, false, false, false, false, false, false] rfl rfl (q0j HT_.out (by kernel_rfl)) (fun _ _ _ h => h) (Or.inl ⟨by rfl, ?_⟩) ?_ ?_
 rotate_left
 ·intro w'
  go_simp
  with_reducible rfl
 rotate_left
 ·simp only [Act.put, qa17, qb17, qc17, i64_w, i32_w]
  rfl
 refine pure_ (i := 3) (N := some 17) (v := ?_) (a' := ?_) #[true, true, false, true, false, false, false, false, false, false, false, false, false, false, false, false, false, false, false, false] rfl rfl (q0j HT_.out (by kernel_rfl)) (fun _ _ _ h => h) (Or.inl ⟨by rfl, ?_⟩) ?_ ?_
 rotate_left
 ·intro w'
  go_simp
  with_reducible rfl
 rotate_left
 ·simp only [Act.put, qa17, qb17, qc17, i64_w, i32_w]
  rfl
 refine pure_ (i := 5) (N := some 19) (v := ?_) (a' := ?_) #[true, true, false, true, false, true, false, false, false, false, false, false, false, false, false, false, false, false, false, false] rfl rfl (q0j HT_.out (by kernel_rfl)) (fun _ _ _ h => h) (Or.inl ⟨by rfl, ?_⟩) ?_ ?_
 rotate_left
 ·intro w'
  go_simp
  with_reducible rfl
 rotate_left
 ·simp only [Act.put, qa17, qb17, qc17, i64_w, i32_w]
  rfl
 refine pure_ (i := 9) (N := some 23) (v := ?_) (a' := ?_) #[true, true, false, true, false, true, false, false, false, true, false, false, false, false, false, false, false, false, false, false] rfl rfl (q0j HT_.out (by kernel_rfl)) (fun _ _ _ h => h) (Or.inl ⟨by rfl, ?_⟩) ?_ ?_
 rotate_left
 ·intro w'
  go_simp
  with_reducible rfl
 rotate_left
 ·simp only [Act.put, qa17, qb17, qc17, i64_w, i32_w]
  rfl
 refine pure_ (i := 13) (N := some 27) (v := ?_) (a' := ?_) #[true, true, false, true, false, true, false, false, false, true, false, false, false, true, false, false, false, false, false, false] rfl rfl (q0j HT_.out (by kernel_rfl)) (fun _ _ _ h => h) (Or.inl ⟨by rfl, ?_⟩) ?_ ?_
 rotate_left
 ·intro w'
  go_simp
  with_reducible rfl
 rotate_left
 ·simp only [Act.put, qa17, qb17, qc17, i64_w, i32_w]
  rfl
 refine take_ (i := 4) (N := some 18) (v := ?_) (a' := ?_) #[true, true, false, true, true, true, false, false, false, true, false, false, false, true, false, false, false, false, false, false] rfl rfl (q0w HT_.out HW_.out (by kernel_rfl)) (fun _ _ _ h => h) (Or.inl ⟨by rfl, ?_⟩) hHeld ?_ ?_
 rotate_left
 ·rintro w' ⟨s0, s1, s2, s3⟩
  go_simp
  with_reducible rfl
 rotate_left
 ·simp only [Act.put, qa17, qb17, qc17, i64_w, i32_w]
  rfl
 refine pure_ (i := 6) (N := some 20) (v := ?_) (a' := ?_) #[true, true, false, true, true, true, true, false, false, true, false, false, false, true, false, false, false, false, false, false] rfl rfl (q0j HT_.out (by kernel_rfl)) (fun _ _ _ h => h) (Or.inl ⟨by rfl, ?_⟩) ?_ ?_
 rotate_left
 ·intro w'
  go_simp
  with_reducible rfl
 rotate_left
 ·simp only [Act.put, qa17, qb17, qc17, i64_w, i32_w]
  rfl
 refine take_ (i := 10) (N := some 24) (v := ?_) (a' := ?_) #[true, true, false, true, true, true, true, false, false, true, true, false, false, true, false, false, false, false, false, false] rfl rfl (q0w HT_.out HW_.out (by kernel_rfl)) (fun _ _ _ h => h) (Or.inl ⟨by rfl, ?_⟩) hHeld ?_ ?_
 rotate_left
 ·rintro w' ⟨s0, s1, s2, s3⟩
  go_simp
  with_reducible rfl
 rotate_left
 ·simp only [Act.put, qa17, qb17, qc17, i64_w, i32_w]
  rfl
 refine take_ (i := 14) (N := some 28) (v := ?_) (a' := ?_) #[true, true, false, true, true, true, true, false, false, true, true, false, false, true, true, false, false, false, false, false] rfl rfl (q0w HT_.out HW_.out (by kernel_rfl)) (fun _ _ _ h => h) (Or.inl ⟨by rfl, ?_⟩) hHeld ?_ ?_
 rotate_left
 ·rintro w' ⟨s0, s1, s2, s3⟩
  go_simp
  with_reducible rfl
 rotate_left
 ·simp only [Act.put, qa17, qb17, qc17, i64_w, i32_w]
  rfl
 refine pure_ (i := 15) (N := some 29) (v := ?_) (a' := ?_) #[true, true, false, true, true, true, true, false, false, true, true, false, false, true, true, true, false, false, false, false] rfl rfl (q0j HT_.out (by kernel_rfl)) (fun _ _ _ h => h) (Or.inl ⟨by rfl, ?_⟩) ?_ ?_
 rotate_left
 ·intro w'
  go_simp
  with_reducible rfl
 rotate_left
 ·simp only [Act.put, qa17, qb17, qc17, i64_w, i32_w]
  rfl
 refine join_ (σ := Value) 2 #[true, true, true, true, true, true, true, true, true, true, true, true, true, true, true, true, true, true, false, false] (fun s_ => [(16, .string t170), (21, .string t171), (25, .string t172), (30, s_), (31, .string (strOfNums y173)), (22, .string (t170 ++ t171)), (26, .string ((t170 ++ t171) ++ t172))]) (fun s_ w' => (w'.cell? ⟨gb169, 0, none⟩ = some (.string a0_0) ∧ w'.cell? ⟨gb169, 1, none⟩ = some (.int .u64 a0_1) ∧ w'.cell? ⟨gb169, 2, none⟩ = some (.int .i64 a0_2) ∧ w'.cell? ⟨gb169, 3, none⟩ = some (.string a0_3)) ∧ (Kd.R (Kd.int .u8) 5 w' w.heap.size (fun _ => True) s_ y173) ∧ (w'.heap[gb169]? = some (.cells #[.string a0_0, .int .u64 a0_1, .int .i64 a0_2, .string a0_3] 28 (0, 0))) ∧ (Below w.heap.size w w')) ?_ ?_
 rotate_left
 ·intro hJ2_7_11_16_17
  refine join_ (σ := Value) 3 #[true, true, true, true, true, true, true, true, true, true, true, true, true, true, true, true, true, false, false, false] (fun s_ => [(16, .string t170), (21, .string t171), (25, .string t172), (30, s_), (22, .string (t170 ++ t171)), (26, .string ((t170 ++ t171) ++ t172))]) (fun s_ w' => (w'.cell? ⟨gb169, 0, none⟩ = some (.string a0_0) ∧ w'.cell? ⟨gb169, 1, none⟩ = some (.int .u64 a0_1) ∧ w'.cell? ⟨gb169, 2, none⟩ = some (.int .i64 a0_2) ∧ w'.cell? ⟨gb169, 3, none⟩ = some (.string a0_3)) ∧ (Kd.R (Kd.int .u8) 5 w' w.heap.size (fun _ => True) s_ y173) ∧ (w'.heap[gb169]? = some (.cells #[.string a0_0, .int .u64 a0_1, .int .i64 a0_2, .string a0_3] 28 (0, 0))) ∧ (Below w.heap.size w w')) ?_ ?_
  rotate_left
  ·intro hJ2_7_11_16
   refine join_ (σ := Value) 4 #[true, true, true, true, true, true, true, true, true, true, true, false, false, true, true, true, true, true, false, false] (fun s_ => [(16, .string t170), (21, .string t171), (30, s_), (31, .string (strOfNums y173)), (22, .string (t170 ++ t171))]) (fun s_ w' => (w'.cell? ⟨gb169, 0, none⟩ = some (.string a0_0) ∧ w'.cell? ⟨gb169, 1, none⟩ = some (.int .u64 a0_1) ∧ w'.cell? ⟨gb169, 2, none⟩ = some (.int .i64 a0_2) ∧ w'.cell? ⟨gb169, 3, none⟩ = some (.string a0_3)) ∧ (Kd.R (Kd.int .u8) 5 w' w.heap.size (fun _ => True) s_ y173) ∧ (w'.heap[gb169]? = some (.cells #[.string a0_0, .int .u64 a0_1, .int .i64 a0_2, .string a0_3] 28 (0, 0))) ∧ (Below w.heap.size w w')) ?_ ?_
   rotate_left
   ·intro hJ2_7_16_17
    refine join_ (σ := Unit) 4 #[true, true, true, true, true, true, true, true, true, true, true, true, true, true, true, true, false, false, false, false] (fun s_ => [(16, .string t170), (21, .string t171), (25, .string t172), (22, .string (t170 ++ t171)), (26, .string ((t170 ++ t171) ++ t172))]) (fun s_ w' => (w'.cell? ⟨gb169, 0, none⟩ = some (.string a0_0) ∧ w'.cell? ⟨gb169, 1, none⟩ = some (.int .u64 a0_1) ∧ w'.cell? ⟨gb169, 2, none⟩ = some (.int .i64 a0_2) ∧ w'.cell? ⟨gb169, 3, none⟩ = some (.string a0_3)) ∧ (w'.heap[gb169]? = some (.cells #[.string a0_0, .int .u64 a0_1, .int .i64 a0_2, .string a0_3] 28 (0, 0))) ∧ (Below w.heap.size w w')) ?_ ?_
    rotate_left
    ·intro hJ2_7_11
     refine join_ (σ := Value) 5 #[true, true, true, true, true, true, true, true, true, true, true, false, false, true, true, true, true, false, false, false] (fun s_ => [(16, .string t170), (21, .string t171), (30, s_), (22, .string (t170 ++ t171))]) (fun s_ w' => (w'.cell? ⟨gb169, 0, none⟩ = some (.string a0_0) ∧ w'.cell? ⟨gb169, 1, none⟩ = some (.int .u64 a0_1) ∧ w'.cell? ⟨gb169, 2, none⟩ = some (.int .i64 a0_2) ∧ w'.cell? ⟨gb169, 3, none⟩ = some (.string a0_3)) ∧ (Kd.R (Kd.int .u8) 5 w' w.heap.size (fun _ => True) s_ y173) ∧ (w'.heap[gb169]? = some (.cells #[.string a0_0, .int .u64 a0_1, .int .i64 a0_2, .string a0_3] 28 (0, 0))) ∧ (Below w.heap.size w w')) ?_ ?_
     rotate_left
     ·intro hJ2_7_16
      refine join_ (σ := Value) 6 #[true, true, true, true, true, true, true, false, false, true, true, false, false, true, true, true, true, true, false, false] (fun s_ => [(16, .string t170), (30, s_), (31, .string (strOfNums y173))]) (fun s_ w' => (w'.cell? ⟨gb169, 0, none⟩ = some (.string a0_0) ∧ w'.cell? ⟨gb169, 1, none⟩ = some (.int .u64 a0_1) ∧ w'.cell? ⟨gb169, 2, none⟩ = some (.int .i64 a0_2) ∧ w'.cell? ⟨gb169, 3, none⟩ = some (.string a0_3)) ∧ (Kd.R (Kd.int .u8) 5 w' w.heap.size (fun _ => True) s_ y173) ∧ (w'.heap[gb169]? = some (.cells #[.string a0_0, .int .u64 a0_1, .int .i64 a0_2, .string a0_3] 28 (0, 0))) ∧ (Below w.heap.size w w')) ?_ ?_
      rotate_left
      ·intro hJ2_16_17
       refine join_ (σ := Unit) 6 #[true, true, true, true, true, true, true, true, true, true, true, false, false, true, true, true, false, false, false, false] (fun s_ => [(16, .string t170), (21, .string t171), (22, .string (t170 ++ t171))]) (fun s_ w' => (w'.cell? ⟨gb169, 0, none⟩ = some (.string a0_0) ∧ w'.cell? ⟨gb169, 1, none⟩ = some (.int .u64 a0_1) ∧ w'.cell? ⟨gb169, 2, none⟩ = some (.int .i64 a0_2) ∧ w'.cell? ⟨gb169, 3, none⟩ = some (.string a0_3)) ∧ (w'.heap[gb169]? = some (.cells #[.string a0_0, .int .u64 a0_1, .int .i64 a0_2, .string a0_3] 28 (0, 0))) ∧ (Below w.heap.size w w')) ?_ ?_
       rotate_left
       ·intro hJ2_7
        refine join_ (σ := Value) 7 #[true, true, true, true, true, true, true, false, false, true, true, false, false, true, true, true, true, false, false, false] (fun s_ => [(16, .string t170), (30, s_)]) (fun s_ w' => (w'.cell? ⟨gb169, 0, none⟩ = some (.string a0_0) ∧ w'.cell? ⟨gb169, 1, none⟩ = some (.int .u64 a0_1) ∧ w'.cell? ⟨gb169, 2, none⟩ = some (.int .i64 a0_2) ∧ w'.cell? ⟨gb169, 3, none⟩ = some (.string a0_3)) ∧ (Kd.R (Kd.int .u8) 5 w' w.heap.size (fun _ => True) s_ y173) ∧ (w'.heap[gb169]? = some (.cells #[.string a0_0, .int .u64 a0_1, .int .i64 a0_2, .string a0_3] 28 (0, 0))) ∧ (Below w.heap.size w w')) ?_ ?_
        rotate_left
        ·intro hJ2_16
         refine join_ (σ := Value) 7 #[true, true, false, true, true, true, true, false, false, true, true, false, false, true, true, true, true, true, false, false] (fun s_ => [(30, s_), (31, .string (strOfNums y173))]) (fun s_ w' => (w'.cell? ⟨gb169, 0, none⟩ = some (.string a0_0) ∧ w'.cell? ⟨gb169, 1, none⟩ = some (.int .u64 a0_1) ∧ w'.cell? ⟨gb169, 2, none⟩ = some (.int .i64 a0_2) ∧ w'.cell? ⟨gb169, 3, none⟩ = some (.string a0_3)) ∧ (Kd.R (Kd.int .u8) 5 w' w.heap.size (fun _ => True) s_ y173) ∧ (w'.heap[gb169]? = some (.cells #[.string a0_0, .int .u64 a0_1, .int .i64 a0_2, .string a0_3] 28 (0, 0))) ∧ (Below w.heap.size w w')) ?_ ?_
         rotate_left
         ·intro hJ16_17
          refine join_ (σ := Unit) 8 #[true, true, true, true, true, true, true, false, false, true, true, false, false, true, true, true, false, false, false, false] (fun s_ => [(16, .string t170)]) (fun s_ w' => (w'.cell? ⟨gb169, 0, none⟩ = some (.string a0_0) ∧ w'.cell? ⟨gb169, 1, none⟩ = some (.int .u64 a0_1) ∧ w'.cell? ⟨gb169, 2, none⟩ = some (.int .i64 a0_2) ∧ w'.cell? ⟨gb169, 3, none⟩ = some (.string a0_3)) ∧ (w'.heap[gb169]? = some (.cells #[.string a0_0, .int .u64 a0_1, .int .i64 a0_2, .string a0_3] 28 (0, 0))) ∧ (Below w.heap.size w w')) ?_ ?_
          rotate_left
          ·intro hJ2
           refine join_ (σ := Value) 8 #[true, true, false, true, true, true, true, false, false, true, true, false, false, true, true, true, true, false, false, false] (fun s_ => [(30, s_)]) (fun s_ w' => (w'.cell? ⟨gb169, 0, none⟩ = some (.string a0_0) ∧ w'.cell? ⟨gb169, 1, none⟩ = some (.int .u64 a0_1) ∧ w'.cell? ⟨gb169, 2, none⟩ = some (.int .i64 a0_2) ∧ w'.cell? ⟨gb169, 3, none⟩ = some (.string a0_3)) ∧ (Kd.R (Kd.int .u8) 5 w' w.heap.size (fun _ => True) s_ y173) ∧ (w'.heap[gb169]? = some (.cells #[.string a0_0, .int .u64 a0_1, .int .i64 a0_2, .string a0_3] 28 (0, 0))) ∧ (Below w.heap.size w w')) ?_ ?_
           rotate_left
           ·intro hJ16
            refine two_ (i := 2) (j := 16) (Ni := some 16) (Nj := some 30) #[true, true, true, true, true, true, true, false, false, true, true, false, false, true, true, true, false, false, false, false] #[true, true, false, true, true, true, true, false, false, true, true, false, false, true, true, true, true, false, false, false] rfl rfl rfl rfl (two_of HT_.out (by kernel_rfl)) (by decide) (by decide) (fun K hK => ?_) (fun K hK => ?_)
            ·skip
             refine goes_ Try.func36 (by kernel_rfl) rfl #[.int .u64 (IntKind.u64.wrap (x5_2))] (by rfl) rfl rfl (by (try simp only [List.map_toArray, List.map_cons, List.map_nil]); first | done | rfl | (simp only [List.length_drop, List.length_take]; rfl)) ?_
             with_reducible refine (code_PutUint.calls k15 (IntKind.u64.wrap (x5_2)) t170 _ A15.out).mono ?_
             rintro e w27 ⟨rfl, hb⟩
             refine ⟨_, rfl, ?_⟩
             have n0_ := q04.mk (q0f (g := gb169) (o := .cells #[.string a0_0, .int .u64 a0_1, .int .i64 a0_2, .string a0_3] 28 (0, 0)) (by (with_reducible repeat (first | refine q07 ?_ _ | refine q08 ?_ | refine q06 ?_ _)); exact BK169.out) hb)
             have n1_ := q04.mk (q0a (by repeat (first | (with_reducible first | exact HB.out | apply q02 | apply q00 | apply q01 | refine q09 ?_ GE169.out) | exact HB.out)) hb)
             clear BK169
             clear HB
             have BK169 := n0_
             have HB := n1_
             clear n0_ n1_
             (try clear hb)
             (try clear hb2)
             (try clear hk)
             (try clear hi)
             refine hK.out _ _ ⟨(q03 BK169.out 0).trans rfl, (q03 BK169.out 1).trans rfl, (q03 BK169.out 2).trans rfl, (q03 BK169.out 3).trans rfl⟩ (fun hHeld => ?_)
             clear hK K
             refine norm_ (a' := ?_) ?_ ?_
             rotate_left
             ·show Act.put _ (some 16) _ = _
              simp only [Act.put, qa17, qb17, qc17, i64_w, i32_w]
              rfl
             exact norm_ (by first | (simp only [q0m, Act.put, qa17, qb17, qc17]; done) | (simp only [q0m, Act.put, qa17, qb17, qc17]; rfl)) (hJ2 () _ ⟨hHeld, (by (with_reducible repeat (first | refine q07 ?_ _ | refine q08 ?_ | refine q06 ?_ _)); exact BK169.out), (by repeat (first | (with_reducible first | exact HB.out | apply q02 | apply q00 | apply q01 | refine q09 ?_ GE169.out) | exact HB.out))⟩)
            ·skip
             refine Kd.R_lit_step (Kd.int .u8) _ 5 ?hg (N := 30) ?hd (xs := ([(a0_2) % 256] : List Int)) (inner := [.int .u8 ((a0_2) % 256)]) (ok := fun _ => True) (okp := fun _ => True) ?hr ?hp (fun _ hk => hk) trivial (Below.refl _ _) (Nat.le_refl _) (by simp) ?_; (case hd => rfl); (case hg => rfl); (case hr => first | (go_simp; done) | (go_simp; rfl)); (case hp => exact (Reps.one (show Kd.M (Kd.int .u8) _ _ _ ((a0_2) % 256) [.int .u8 ((a0_2) % 256)] from rfl) (Reps.none _ _)))
             intro v174 w27 ho28 hb hg_ hnew_
             clear hg_ hnew_
             (first | rw [← Ny173.out] at ho28 | (simp only [Int.reduceToNat] at ho28; rw [← Ny173.out] at ho28))
             have n0_ := q04.mk (Kd.R_lower ho28 (q0e (by repeat (first | (with_reducible first | exact HB.out | apply q02 | apply q00 | apply q01 | refine q09 ?_ GE169.out) | exact HB.out))))
             have n1_ := q04.mk (q0f (g := gb169) (o := .cells #[.string a0_0, .int .u64 a0_1, .int .i64 a0_2, .string a0_3] 28 (0, 0)) (by (with_reducible repeat (first | refine q07 ?_ _ | refine q08 ?_ | refine q06 ?_ _)); exact BK169.out) hb)
             have n2_ := q04.mk (q0a (by repeat (first | (with_reducible first | exact HB.out | apply q02 | apply q00 | apply q01 | refine q09 ?_ GE169.out) | exact HB.out)) hb)
             clear BK169
             clear HB
             have HO175 := n0_
             have BK169 := n1_
             have HB := n2_
             clear n0_ n1_ n2_
             clear hb ho28
             refine hK.out _ _ ⟨(q03 BK169.out 0).trans rfl, (q03 BK169.out 1).trans rfl, (q03 BK169.out 2).trans rfl, (q03 BK169.out 3).trans rfl⟩ (fun hHeld => ?_)
             clear hK K
             refine norm_ (a' := ?_) ?_ ?_
             rotate_left
             ·show Act.put _ (some 30) _ = _
              simp only [Act.put, qa17, qb17, qc17, i64_w, i32_w]
              rfl
             exact norm_ (by first | (simp only [q0m, Act.put, qa17, qb17, qc17]; done) | (simp only [q0m, Act.put, qa17, qb17, qc17]; rfl)) (hJ16 (v174) _ ⟨hHeld, (by (with_reducible repeat (first | apply Kd.R_alloc | apply Kd.R_drewN | apply Kd.R_drew)); exact HO175.out), (by (with_reducible repeat (first | refine q07 ?_ _ | refine q08 ?_ | refine q06 ?_ _)); exact BK169.out), (by repeat (first | (with_reducible first | exact HB.out | apply q02 | apply q00 | apply q01 | refine q09 ?_ GE169.out) | exact HB.out))⟩)
           ·skip
            rintro v174 w29 ⟨hS_, h0_, h1_, h2_⟩
            have n0_ : q04 (Kd.R (Kd.int .u8) 5 w29 w.heap.size (fun _ => True) v174 y173) := ⟨h0_⟩
            have n1_ : q04 (w29.heap[gb169]? = some (.cells #[.string a0_0, .int .u64 a0_1, .int .i64 a0_2, .string a0_3] 28 (0, 0))) := ⟨h1_⟩
            have n2_ : q04 (Below w.heap.size w w29) := ⟨h2_⟩
            clear BK169
            clear HB
            clear h0_ h1_ h2_
            have HO175 := n0_
            have BK169 := n1_
            have HB := n2_
            clear n0_ n1_ n2_
            have hHeld : w29.cell? ⟨gb169, 0, none⟩ = some (.string a0_0) ∧ w29.cell? ⟨gb169, 1, none⟩ = some (.int .u64 a0_1) ∧ w29.cell? ⟨gb169, 2, none⟩ = some (.int .i64 a0_2) ∧ w29.cell? ⟨gb169, 3, none⟩ = some (.string a0_3) := hS_
            refine norm_ (a' := ?_) ?_ ?_
            rotate_left
            ·simp only [q0m, Act.put, qa17, qb17, qc17]
             rfl
            refine two_ (i := 2) (j := 17) (Ni := some 16) (Nj := some 31) #[true, true, true, true, true, true, true, false, false, true, true, false, false, true, true, true, true, false, false, false] #[true, true, false, true, true, true, true, false, false, true, true, false, false, true, true, true, true, true, false, false] rfl rfl rfl rfl (two_of HT_.out (by kernel_rfl)) (by decide) (by decide) (fun K hK => ?_) (fun K hK => ?_)
            ·skip
             refine goes_ Try.func36 (by kernel_rfl) rfl #[.int .u64 (IntKind.u64.wrap (x5_2))] (by rfl) rfl rfl (by (try simp only [List.map_toArray, List.map_cons, List.map_nil]); first | done | rfl | (simp only [List.length_drop, List.length_take]; rfl)) ?_
             with_reducible refine (code_PutUint.calls k15 (IntKind.u64.wrap (x5_2)) t170 _ A15.out).mono ?_
             rintro e w30 ⟨rfl, hb⟩
             refine ⟨_, rfl, ?_⟩
             have n0_ := q04.mk (Kd.R_below (by (with_reducible repeat (first | apply Kd.R_alloc | apply Kd.R_drewN | apply Kd.R_drew)); exact HO175.out) hb)
             have n1_ := q04.mk (q0f (g := gb169) (o := .cells #[.string a0_0, .int .u64 a0_1, .int .i64 a0_2, .string a0_3] 28 (0, 0)) (by (with_reducible repeat (first | refine q07 ?_ _ | refine q08 ?_ | refine q06 ?_ _)); exact BK169.out) hb)
             have n2_ := q04.mk (q0a (by repeat (first | (with_reducible first | exact HB.out | apply q02 | apply q00 | apply q01 | refine q09 ?_ GE169.out) | exact HB.out)) hb)
             clear HO175
             clear BK169
             clear HB
             have HO175 := n0_
             have BK169 := n1_
             have HB := n2_
             clear n0_ n1_ n2_
             (try clear hb)
             (try clear hb2)
             (try clear hk)
             (try clear hi)
             refine hK.out _ _ ⟨(q03 BK169.out 0).trans rfl, (q03 BK169.out 1).trans rfl, (q03 BK169.out 2).trans rfl, (q03 BK169.out 3).trans rfl⟩ (fun hHeld => ?_)
             clear hK K
             refine norm_ (a' := ?_) ?_ ?_
             rotate_left
             ·show Act.put _ (some 16) _ = _
              simp only [Act.put, qa17, qb17, qc17, i64_w, i32_w]
              rfl
             exact norm_ (by first | (simp only [q0m, Act.put, qa17, qb17, qc17]; done) | (simp only [q0m, Act.put, qa17, qb17, qc17]; rfl)) (hJ2_16 (v174) _ ⟨hHeld, (by (with_reducible repeat (first | apply Kd.R_alloc | apply Kd.R_drewN | apply Kd.R_drew)); exact HO175.out), (by (with_reducible repeat (first | refine q07 ?_ _ | refine q08 ?_ | refine q06 ?_ _)); exact BK169.out), (by repeat (first | (with_reducible first | exact HB.out | apply q02 | apply q00 | apply q01 | refine q09 ?_ GE169.out) | exact HB.out))⟩)
            ·skip
             have hcv30 := q14 (P := Try.prog) Try.underlying55 Try.underlying5 Try.underlying9 (Kd.own_of_R HO175.out)
             refine value_ (w1 := ?_) (v := ?_) (by rfl) rfl ?_ ?_
             rotate_left 2
             ·go_simp
              constructor
              ·rfl
              ·rfl
             clear hcv30
             refine hK.out _ _ ⟨(q03 BK169.out 0).trans rfl, (q03 BK169.out 1).trans rfl, (q03 BK169.out 2).trans rfl, (q03 BK169.out 3).trans rfl⟩ (fun hHeld => ?_)
             clear hK K
             refine norm_ (a' := ?_) ?_ ?_
             rotate_left
             ·show Act.put _ (some 31) _ = _
              simp only [Act.put, qa17, qb17, qc17, i64_w, i32_w]
              rfl
             exact norm_ (by first | (simp only [q0m, Act.put, qa17, qb17, qc17]; done) | (simp only [q0m, Act.put, qa17, qb17, qc17]; rfl)) (hJ16_17 (v174) _ ⟨hHeld, (by (with_reducible repeat (first | apply Kd.R_alloc | apply Kd.R_drewN | apply Kd.R_drew)); exact HO175.out), (by (with_reducible repeat (first | refine q07 ?_ _ | refine q08 ?_ | refine q06 ?_ _)); exact BK169.out), (by repeat (first | (with_reducible first | exact HB.out | apply q02 | apply q00 | apply q01 | refine q09 ?_ GE169.out) | exact HB.out))⟩)
          ·skip
           rintro _ w28 ⟨hS_, h0_, h1_⟩
           have n0_ : q04 (w28.heap[gb169]? = some (.cells #[.string a0_0, .int .u64 a0_1, .int .i64 a0_2, .string a0_3] 28 (0, 0))) := ⟨h0_⟩
           have n1_ : q04 (Below w.heap.size w w28) := ⟨h1_⟩
           clear BK169
           clear HB
           clear h0_ h1_
           have BK169 := n0_
           have HB := n1_
           clear n0_ n1_
           have hHeld : w28.cell? ⟨gb169, 0, none⟩ = some (.string a0_0) ∧ w28.cell? ⟨gb169, 1, none⟩ = some (.int .u64 a0_1) ∧ w28.cell? ⟨gb169, 2, none⟩ = some (.int .i64 a0_2) ∧ w28.cell? ⟨gb169, 3, none⟩ = some (.string a0_3) := hS_
           refine norm_ (a' := ?_) ?_ ?_
           rotate_left
           ·simp only [q0m, Act.put, qa17, qb17, qc17]
            rfl
           refine two_ (i := 7) (j := 16) (Ni := some 21) (Nj := some 30) #[true, true, true, true, true, true, true, true, false, true, true, false, false, true, true, true, false, false, false, false] #[true, true, true, true, true, true, true, false, false, true, true, false, false, true, true, true, true, false, false, false] rfl rfl rfl rfl (two_of HT_.out (by kernel_rfl)) (by decide) (by decide) (fun K hK => ?_) (fun K hK => ?_)
           ·skip
            refine goes_ Try.func35 (by kernel_rfl) rfl #[.string (a0_0.extract (x5_2 : Int).toNat a0_0.size)] (by rfl) rfl rfl (by (try simp only [List.map_toArray, List.map_cons, List.map_nil]); first | done | rfl | (simp only [List.length_drop, List.length_take]; rfl)) ?_
            with_reducible refine (code_PutField.calls k18 (a0_0.extract (x5_2 : Int).toNat a0_0.size) t171 _ A18.out).mono ?_
            rintro e w29 ⟨rfl, hb⟩
            refine ⟨_, rfl, ?_⟩
            have n0_ := q04.mk (q0f (g := gb169) (o := .cells #[.string a0_0, .int .u64 a0_1, .int .i64 a0_2, .string a0_3] 28 (0, 0)) (by (with_reducible repeat (first | refine q07 ?_ _ | refine q08 ?_ | refine q06 ?_ _)); exact BK169.out) hb)
            have n1_ := q04.mk (q0a (by repeat (first | (with_reducible first | exact HB.out | apply q02 | apply q00 | apply q01 | refine q09 ?_ GE169.out) | exact HB.out)) hb)
            clear BK169
            clear HB
            have BK169 := n0_
            have HB := n1_
            clear n0_ n1_
            (try clear hb)
            (try clear hb2)
            (try clear hk)
            (try clear hi)
            refine hK.out _ _ ⟨(q03 BK169.out 0).trans rfl, (q03 BK169.out 1).trans rfl, (q03 BK169.out 2).trans rfl, (q03 BK169.out 3).trans rfl⟩ (fun hHeld => ?_)
            clear hK K
            refine norm_ (a' := ?_) ?_ ?_
            rotate_left
            ·show Act.put _ (some 21) _ = _
             simp only [Act.put, qa17, qb17, qc17, i64_w, i32_w]
             rfl
            refine pure_ (i := 8) (N := some 22) (v := ?_) (a' := ?_) #[true, true, true, true, true, true, true, true, true, true, true, false, false, true, true, true, false, false, false, false] rfl rfl (q0j HT_.out (by kernel_rfl)) (fun _ _ _ h => h) (Or.inl ⟨by rfl, ?_⟩) ?_ ?_
            rotate_left
            ·intro w'
             go_simp
             with_reducible rfl
            rotate_left
            ·simp only [Act.put, qa17, qb17, qc17, i64_w, i32_w]
             rfl
            exact norm_ (by first | (simp only [q0m, Act.put, qa17, qb17, qc17]; done) | (simp only [q0m, Act.put, qa17, qb17, qc17]; rfl)) (hJ2_7 () _ ⟨hHeld, (by (with_reducible repeat (first | refine q07 ?_ _ | refine q08 ?_ | refine q06 ?_ _)); exact BK169.out), (by repeat (first | (with_reducible first | exact HB.out | apply q02 | apply q00 | apply q01 | refine q09 ?_ GE169.out) | exact HB.out))⟩)
           ·skip
            refine Kd.R_lit_step (Kd.int .u8) _ 5 ?hg (N := 30) ?hd (xs := ([(a0_2) % 256] : List Int)) (inner := [.int .u8 ((a0_2) % 256)]) (ok := fun _ => True) (okp := fun _ => True) ?hr ?hp (fun _ hk => hk) trivial (Below.refl _ _) (Nat.le_refl _) (by simp) ?_; (case hd => rfl); (case hg => rfl); (case hr => first | (go_simp; done) | (go_simp; rfl)); (case hp => exact (Reps.one (show Kd.M (Kd.int .u8) _ _ _ ((a0_2) % 256) [.int .u8 ((a0_2) % 256)] from rfl) (Reps.none _ _)))
            intro v174 w29 ho30 hb hg_ hnew_
            clear hg_ hnew_
            (first | rw [← Ny173.out] at ho30 | (simp only [Int.reduceToNat] at ho30; rw [← Ny173.out] at ho30))
            have n0_ := q04.mk (Kd.R_lower ho30 (q0e (by repeat (first | (with_reducible first | exact HB.out | apply q02 | apply q00 | apply q01 | refine q09 ?_ GE169.out) | exact HB.out))))
            have n1_ := q04.mk (q0f (g := gb169) (o := .cells #[.string a0_0, .int .u64 a0_1, .int .i64 a0_2, .string a0_3] 28 (0, 0)) (by (with_reducible repeat (first | refine q07 ?_ _ | refine q08 ?_ | refine q06 ?_ _)); exact BK169.out) hb)
            have n2_ := q04.mk (q0a (by repeat (first | (with_reducible first | exact HB.out | apply q02 | apply q00 | apply q01 | refine q09 ?_ GE169.out) | exact HB.out)) hb)
            clear BK169
            clear HB
            have HO175 := n0_
            have BK169 := n1_
            have HB := n2_
            clear n0_ n1_ n2_
            clear hb ho30
            refine hK.out _ _ ⟨(q03 BK169.out 0).trans rfl, (q03 BK169.out 1).trans rfl, (q03 BK169.out 2).trans rfl, (q03 BK169.out 3).trans rfl⟩ (fun hHeld => ?_)
            clear hK K
            refine norm_ (a' := ?_) ?_ ?_
            rotate_left
            ·show Act.put _ (some 30) _ = _
             simp only [Act.put, qa17, qb17, qc17, i64_w, i32_w]
             rfl
            exact norm_ (by first | (simp only [q0m, Act.put, qa17, qb17, qc17]; done) | (simp only [q0m, Act.put, qa17, qb17, qc17]; rfl)) (hJ2_16 (v174) _ ⟨hHeld, (by (with_reducible repeat (first | apply Kd.R_alloc | apply Kd.R_drewN | apply Kd.R_drew)); exact HO175.out), (by (with_reducible repeat (first | refine q07 ?_ _ | refine q08 ?_ | refine q06 ?_ _)); exact BK169.out), (by repeat (first | (with_reducible first | exact HB.out | apply q02 | apply q00 | apply q01 | refine q09 ?_ GE169.out) | exact HB.out))⟩)
         ·skip
          rintro v174 w30 ⟨hS_, h0_, h1_, h2_⟩
          have n0_ : q04 (Kd.R (Kd.int .u8) 5 w30 w.heap.size (fun _ => True) v174 y173) := ⟨h0_⟩
          have n1_ : q04 (w30.heap[gb169]? = some (.cells #[.string a0_0, .int .u64 a0_1, .int .i64 a0_2, .string a0_3] 28 (0, 0))) := ⟨h1_⟩
          have n2_ : q04 (Below w.heap.size w w30) := ⟨h2_⟩
          clear BK169
          clear HB
          clear h0_ h1_ h2_
          have HO175 := n0_
          have BK169 := n1_
          have HB := n2_
          clear n0_ n1_ n2_
          have hHeld : w30.cell? ⟨gb169, 0, none⟩ = some (.string a0_0) ∧ w30.cell? ⟨gb169, 1, none⟩ = some (.int .u64 a0_1) ∧ w30.cell? ⟨gb169, 2, none⟩ = some (.int .i64 a0_2) ∧ w30.cell? ⟨gb169, 3, none⟩ = some (.string a0_3) := hS_
          refine norm_ (a' := ?_) ?_ ?_
          rotate_left
          ·simp only [q0m, Act.put, qa17, qb17, qc17]
           rfl
          refine one_ (i := 2) (N := some 16) #[true, true, true, true, true, true, true, false, false, true, true, false, false, true, true, true, true, true, false, false] rfl rfl (q13 HT_.out (by kernel_rfl)) (by decide) (fun K hK => ?_)
          refine goes_ Try.func36 (by kernel_rfl) rfl #[.int .u64 (IntKind.u64.wrap (x5_2))] (by rfl) rfl rfl (by (try simp only [List.map_toArray, List.map_cons, List.map_nil]); first | done | rfl | (simp only [List.length_drop, List.length_take]; rfl)) ?_
          with_reducible refine (code_PutUint.calls k15 (IntKind.u64.wrap (x5_2)) t170 _ A15.out).mono ?_
          rintro e w31 ⟨rfl, hb⟩
          refine ⟨_, rfl, ?_⟩
          have n0_ := q04.mk (Kd.R_below (by (with_reducible repeat (first | apply Kd.R_alloc | apply Kd.R_drewN | apply Kd.R_drew)); exact HO175.out) hb)
          have n1_ := q04.mk (q0f (g := gb169) (o := .cells #[.string a0_0, .int .u64 a0_1, .int .i64 a0_2, .string a0_3] 28 (0, 0)) (by (with_reducible repeat (first | refine q07 ?_ _ | refine q08 ?_ | refine q06 ?_ _)); exact BK169.out) hb)
          have n2_ := q04.mk (q0a (by repeat (first | (with_reducible first | exact HB.out | apply q02 | apply q00 | apply q01 | refine q09 ?_ GE169.out) | exact HB.out)) hb)
          clear HO175
          clear BK169
          clear HB
          have HO175 := n0_
          have BK169 := n1_
          have HB := n2_
          clear n0_ n1_ n2_
          (try clear hb)
          (try clear hb2)
          (try clear hk)
          (try clear hi)
          refine hK.out _ _ ⟨(q03 BK169.out 0).trans rfl, (q03 BK169.out 1).trans rfl, (q03 BK169.out 2).trans rfl, (q03 BK169.out 3).trans rfl⟩ (fun hHeld => ?_)
          clear hK K
          refine norm_ (a' := ?_) ?_ ?_
          rotate_left
          ·show Act.put _ (some 16) _ = _
           simp only [Act.put, qa17, qb17, qc17, i64_w, i32_w]
           rfl
          exact norm_ (by first | (simp only [q0m, Act.put, qa17, qb17, qc17]; done) | (simp only [q0m, Act.put, qa17, qb17, qc17]; rfl)) (hJ2_16_17 (v174) _ ⟨hHeld, (by (with_reducible repeat (first | apply Kd.R_alloc | apply Kd.R_drewN | apply Kd.R_drew)); exact HO175.out), (by (with_reducible repeat (first | refine q07 ?_ _ | refine q08 ?_ | refine q06 ?_ _)); exact BK169.out), (by repeat (first | (with_reducible first | exact HB.out | apply q02 | apply q00 | apply q01 | refine q09 ?_ GE169.out) | exact HB.out))⟩)
        ·skip
         rintro v174 w30 ⟨hS_, h0_, h1_, h2_⟩
         have n0_ : q04 (Kd.R (Kd.int .u8) 5 w30 w.heap.size (fun _ => True) v174 y173) := ⟨h0_⟩
         have n1_ : q04 (w30.heap[gb169]? = some (.cells #[.string a0_0, .int .u64 a0_1, .int .i64 a0_2, .string a0_3] 28 (0, 0))) := ⟨h1_⟩
         have n2_ : q04 (Below w.heap.size w w30) := ⟨h2_⟩
         clear BK169
         clear HB
         clear h0_ h1_ h2_
         have HO175 := n0_
         have BK169 := n1_
         have HB := n2_
         clear n0_ n1_ n2_
         have hHeld : w30.cell? ⟨gb169, 0, none⟩ = some (.string a0_0) ∧ w30.cell? ⟨gb169, 1, none⟩ = some (.int .u64 a0_1) ∧ w30.cell? ⟨gb169, 2, none⟩ = some (.int .i64 a0_2) ∧ w30.cell? ⟨gb169, 3, none⟩ = some (.string a0_3) := hS_
         refine norm_ (a' := ?_) ?_ ?_
         rotate_left
         ·simp only [q0m, Act.put, qa17, qb17, qc17]
          rfl
         refine two_ (i := 7) (j := 17) (Ni := some 21) (Nj := some 31) #[true, true, true, true, true, true, true, true, false, true, true, false, false, true, true, true, true, false, false, false] #[true, true, true, true, true, true, true, false, false, true, true, false, false, true, true, true, true, true, false, false] rfl rfl rfl rfl (two_of HT_.out (by kernel_rfl)) (by decide) (by decide) (fun K hK => ?_) (fun K hK => ?_)
         ·skip
          refine goes_ Try.func35 (by kernel_rfl) rfl #[.string (a0_0.extract (x5_2 : Int).toNat a0_0.size)] (by rfl) rfl rfl (by (try simp only [List.map_toArray, List.map_cons, List.map_nil]); first | done | rfl | (simp only [List.length_drop, List.length_take]; rfl)) ?_
          with_reducible refine (code_PutField.calls k18 (a0_0.extract (x5_2 : Int).toNat a0_0.size) t171 _ A18.out).mono ?_
          rintro e w31 ⟨rfl, hb⟩
          refine ⟨_, rfl, ?_⟩
          have n0_ := q04.mk (Kd.R_below (by (with_reducible repeat (first | apply Kd.R_alloc | apply Kd.R_drewN | apply Kd.R_drew)); exact HO175.out) hb)
          have n1_ := q04.mk (q0f (g := gb169) (o := .cells #[.string a0_0, .int .u64 a0_1, .int .i64 a0_2, .string a0_3] 28 (0, 0)) (by (with_reducible repeat (first | refine q07 ?_ _ | refine q08 ?_ | refine q06 ?_ _)); exact BK169.out) hb)
          have n2_ := q04.mk (q0a (by repeat (first | (with_reducible first | exact HB.out | apply q02 | apply q00 | apply q01 | refine q09 ?_ GE169.out) | exact HB.out)) hb)
          clear HO175
          clear BK169
          clear HB
          have HO175 := n0_
          have BK169 := n1_
          have HB := n2_
          clear n0_ n1_ n2_
          (try clear hb)
          (try clear hb2)
          (try clear hk)
          (try clear hi)
          refine hK.out _ _ ⟨(q03 BK169.out 0).trans rfl, (q03 BK169.out 1).trans rfl, (q03 BK169.out 2).trans rfl, (q03 BK169.out 3).trans rfl⟩ (fun hHeld => ?_)
          clear hK K
          refine norm_ (a' := ?_) ?_ ?_
          rotate_left
          ·show Act.put _ (some 21) _ = _
           simp only [Act.put, qa17, qb17, qc17, i64_w, i32_w]
           rfl
          refine pure_ (i := 8) (N := some 22) (v := ?_) (a' := ?_) #[true, true, true, true, true, true, true, true, true, true, true, false, false, true, true, true, true, false, false, false] rfl rfl (q0j HT_.out (by kernel_rfl)) (fun _ _ _ h => h) (Or.inl ⟨by rfl, ?_⟩) ?_ ?_
          rotate_left
          ·intro w'
           go_simp
           with_reducible rfl
          rotate_left
          ·simp only [Act.put, qa17, qb17, qc17, i64_w, i32_w]
           rfl
          exact norm_ (by first | (simp only [q0m, Act.put, qa17, qb17, qc17]; done) | (simp only [q0m, Act.put, qa17, qb17, qc17]; rfl)) (hJ2_7_16 (v174) _ ⟨hHeld, (by (with_reducible repeat (first | apply Kd.R_alloc | apply Kd.R_drewN | apply Kd.R_drew)); exact HO175.out), (by (with_reducible repeat (first | refine q07 ?_ _ | refine q08 ?_ | refine q06 ?_ _)); exact BK169.out), (by repeat (first | (with_reducible first | exact HB.out | apply q02 | apply q00 | apply q01 | refine q09 ?_ GE169.out) | exact HB.out))⟩)
         ·skip
          have hcv31 := q14 (P := Try.prog) Try.underlying55 Try.underlying5 Try.underlying9 (Kd.own_of_R HO175.out)
          refine value_ (w1 := ?_) (v := ?_) (by rfl) rfl ?_ ?_
          rotate_left 2
          ·go_simp
           constructor
           ·rfl
           ·rfl
          clear hcv31
          refine hK.out _ _ ⟨(q03 BK169.out 0).trans rfl, (q03 BK169.out 1).trans rfl, (q03 BK169.out 2).trans rfl, (q03 BK169.out 3).trans rfl⟩ (fun hHeld => ?_)
          clear hK K
          refine norm_ (a' := ?_) ?_ ?_
          rotate_left
          ·show Act.put _ (some 31) _ = _
           simp only [Act.put, qa17, qb17, qc17, i64_w, i32_w]
           rfl
          exact norm_ (by first | (simp only [q0m, Act.put, qa17, qb17, qc17]; done) | (simp only [q0m, Act.put, qa17, qb17, qc17]; rfl)) (hJ2_16_17 (v174) _ ⟨hHeld, (by (with_reducible repeat (first | apply Kd.R_alloc | apply Kd.R_drewN | apply Kd.R_drew)); exact HO175.out), (by (with_reducible repeat (first | refine q07 ?_ _ | refine q08 ?_ | refine q06 ?_ _)); exact BK169.out), (by repeat (first | (with_reducible first | exact HB.out | apply q02 | apply q00 | apply q01 | refine q09 ?_ GE169.out) | exact HB.out))⟩)
       ·skip
        rintro _ w29 ⟨hS_, h0_, h1_⟩
        have n0_ : q04 (w29.heap[gb169]? = some (.cells #[.string a0_0, .int .u64 a0_1, .int .i64 a0_2, .string a0_3] 28 (0, 0))) := ⟨h0_⟩
        have n1_ : q04 (Below w.heap.size w w29) := ⟨h1_⟩
        clear BK169
        clear HB
        clear h0_ h1_
        have BK169 := n0_
        have HB := n1_
        clear n0_ n1_
        have hHeld : w29.cell? ⟨gb169, 0, none⟩ = some (.string a0_0) ∧ w29.cell? ⟨gb169, 1, none⟩ = some (.int .u64 a0_1) ∧ w29.cell? ⟨gb169, 2, none⟩ = some (.int .i64 a0_2) ∧ w29.cell? ⟨gb169, 3, none⟩ = some (.string a0_3) := hS_
        refine norm_ (a' := ?_) ?_ ?_
        rotate_left
        ·simp only [q0m, Act.put, qa17, qb17, qc17]
         rfl
        refine two_ (i := 11) (j := 16) (Ni := some 25) (Nj := some 30) #[true, true, true, true, true, true, true, true, true, true, true, true, false, true, true, true, false, false, false, false] #[true, true, true, true, true, true, true, true, true, true, true, false, false, true, true, true, true, false, false, false] rfl rfl rfl rfl (two_of HT_.out (by kernel_rfl)) (by decide) (by decide) (fun K hK => ?_) (fun K hK => ?_)
        ·skip
         refine goes_ Try.func36 (by kernel_rfl) rfl #[.int .u64 a0_1] (by rfl) rfl rfl (by (try simp only [List.map_toArray, List.map_cons, List.map_nil]); first | done | rfl | (simp only [List.length_drop, List.length_take]; rfl)) ?_
         with_reducible refine (code_PutUint.calls k20 a0_1 t172 _ A20.out).mono ?_
         rintro e w30 ⟨rfl, hb⟩
         refine ⟨_, rfl, ?_⟩
         have n0_ := q04.mk (q0f (g := gb169) (o := .cells #[.string a0_0, .int .u64 a0_1, .int .i64 a0_2, .string a0_3] 28 (0, 0)) (by (with_reducible repeat (first | refine q07 ?_ _ | refine q08 ?_ | refine q06 ?_ _)); exact BK169.out) hb)
         have n1_ := q04.mk (q0a (by repeat (first | (with_reducible first | exact HB.out | apply q02 | apply q00 | apply q01 | refine q09 ?_ GE169.out) | exact HB.out)) hb)
         clear BK169
         clear HB
         have BK169 := n0_
         have HB := n1_
         clear n0_ n1_
         (try clear hb)
         (try clear hb2)
         (try clear hk)
         (try clear hi)
         refine hK.out _ _ ⟨(q03 BK169.out 0).trans rfl, (q03 BK169.out 1).trans rfl, (q03 BK169.out 2).trans rfl, (q03 BK169.out 3).trans rfl⟩ (fun hHeld => ?_)
         clear hK K
         refine norm_ (a' := ?_) ?_ ?_
         rotate_left
         ·show Act.put _ (some 25) _ = _
          simp only [Act.put, qa17, qb17, qc17, i64_w, i32_w]
          rfl
         refine pure_ (i := 12) (N := some 26) (v := ?_) (a' := ?_) #[true, true, true, true, true, true, true, true, true, true, true, true, true, true, true, true, false, false, false, false] rfl rfl (q0j HT_.out (by kernel_rfl)) (fun _ _ _ h => h) (Or.inl ⟨by rfl, ?_⟩) ?_ ?_
         rotate_left
         ·intro w'
          go_simp
          with_reducible rfl
         rotate_left
         ·simp only [Act.put, qa17, qb17, qc17, i64_w, i32_w]
          rfl
         exact norm_ (by first | (simp only [q0m, Act.put, qa17, qb17, qc17]; done) | (simp only [q0m, Act.put, qa17, qb17, qc17]; rfl)) (hJ2_7_11 () _ ⟨hHeld, (by (with_reducible repeat (first | refine q07 ?_ _ | refine q08 ?_ | refine q06 ?_ _)); exact BK169.out), (by repeat (first | (with_reducible first | exact HB.out | apply q02 | apply q00 | apply q01 | refine q09 ?_ GE169.out) | exact HB.out))⟩)
        ·skip
         refine Kd.R_lit_step (Kd.int .u8) _ 5 ?hg (N := 30) ?hd (xs := ([(a0_2) % 256] : List Int)) (inner := [.int .u8 ((a0_2) % 256)]) (ok := fun _ => True) (okp := fun _ => True) ?hr ?hp (fun _ hk => hk) trivial (Below.refl _ _) (Nat.le_refl _) (by simp) ?_; (case hd => rfl); (case hg => rfl); (case hr => first | (go_simp; done) | (go_simp; rfl)); (case hp => exact (Reps.one (show Kd.M (Kd.int .u8) _ _ _ ((a0_2) % 256) [.int .u8 ((a0_2) % 256)] from rfl) (Reps.none _ _)))
         intro v174 w30 ho31 hb hg_ hnew_
         clear hg_ hnew_
         (first | rw [← Ny173.out] at ho31 | (simp only [Int.reduceToNat] at ho31; rw [← Ny173.out] at ho31))
         have n0_ := q04.mk (Kd.R_lower ho31 (q0e (by repeat (first | (with_reducible first | exact HB.out | apply q02 | apply q00 | apply q01 | refine q09 ?_ GE169.out) | exact HB.out))))
         have n1_ := q04.mk (q0f (g := gb169) (o := .cells #[.string a0_0, .int .u64 a0_1, .int .i64 a0_2, .string a0_3] 28 (0, 0)) (by (with_reducible repeat (first | refine q07 ?_ _ | refine q08 ?_ | refine q06 ?_ _)); exact BK169.out) hb)
         have n2_ := q04.mk (q0a (by repeat (first | (with_reducible first | exact HB.out | apply q02 | apply q00 | apply q01 | refine q09 ?_ GE169.out) | exact HB.out)) hb)
         clear BK169
         clear HB
         have HO175 := n0_
         have BK169 := n1_
         have HB := n2_
         clear n0_ n1_ n2_
         clear hb ho31
         refine hK.out _ _ ⟨(q03 BK169.out 0).trans rfl, (q03 BK169.out 1).trans rfl, (q03 BK169.out 2).trans rfl, (q03 BK169.out 3).trans rfl⟩ (fun hHeld => ?_)
         clear hK K
         refine norm_ (a' := ?_) ?_ ?_
         rotate_left
         ·show Act.put _ (some 30) _ = _
          simp only [Act.put, qa17, qb17, qc17, i64_w, i32_w]
          rfl
         exact norm_ (by first | (simp only [q0m, Act.put, qa17, qb17, qc17]; done) | (simp only [q0m, Act.put, qa17, qb17, qc17]; rfl)) (hJ2_7_16 (v174) _ ⟨hHeld, (by (with_reducible repeat (first | apply Kd.R_alloc | apply Kd.R_drewN | apply Kd.R_drew)); exact HO175.out), (by (with_reducible repeat (first | refine q07 ?_ _ | refine q08 ?_ | refine q06 ?_ _)); exact BK169.out), (by repeat (first | (with_reducible first | exact HB.out | apply q02 | apply q00 | apply q01 | refine q09 ?_ GE169.out) | exact HB.out))⟩)
      ·skip
       rintro v174 w31 ⟨hS_, h0_, h1_, h2_⟩
       have n0_ : q04 (Kd.R (Kd.int .u8) 5 w31 w.heap.size (fun _ => True) v174 y173) := ⟨h0_⟩
       have n1_ : q04 (w31.heap[gb169]? = some (.cells #[.string a0_0, .int .u64 a0_1, .int .i64 a0_2, .string a0_3] 28 (0, 0))) := ⟨h1_⟩
       have n2_ : q04 (Below w.heap.size w w31) := ⟨h2_⟩
       clear BK169
       clear HB
       clear h0_ h1_ h2_
       have HO175 := n0_
       have BK169 := n1_
       have HB := n2_
       clear n0_ n1_ n2_
       have hHeld : w31.cell? ⟨gb169, 0, none⟩ = some (.string a0_0) ∧ w31.cell? ⟨gb169, 1, none⟩ = some (.int .u64 a0_1) ∧ w31.cell? ⟨gb169, 2, none⟩ = some (.int .i64 a0_2) ∧ w31.cell? ⟨gb169, 3, none⟩ = some (.string a0_3) := hS_
       refine norm_ (a' := ?_) ?_ ?_
       rotate_left
       ·simp only [q0m, Act.put, qa17, qb17, qc17]
        rfl
       refine one_ (i := 7) (N := some 21) #[true, true, true, true, true, true, true, true, false, true, true, false, false, true, true, true, true, true, false, false] rfl rfl (q13 HT_.out (by kernel_rfl)) (by decide) (fun K hK => ?_)
       refine goes_ Try.func35 (by kernel_rfl) rfl #[.string (a0_0.extract (x5_2 : Int).toNat a0_0.size)] (by rfl) rfl rfl (by (try simp only [List.map_toArray, List.map_cons, List.map_nil]); first | done | rfl | (simp only [List.length_drop, List.length_take]; rfl)) ?_
       with_reducible refine (code_PutField.calls k18 (a0_0.extract (x5_2 : Int).toNat a0_0.size) t171 _ A18.out).mono ?_
       rintro e w32 ⟨rfl, hb⟩
       refine ⟨_, rfl, ?_⟩
       have n0_ := q04.mk (Kd.R_below (by (with_reducible repeat (first | apply Kd.R_alloc | apply Kd.R_drewN | apply Kd.R_drew)); exact HO175.out) hb)
       have n1_ := q04.mk (q0f (g := gb169) (o := .cells #[.string a0_0, .int .u64 a0_1, .int .i64 a0_2, .string a0_3] 28 (0, 0)) (by (with_reducible repeat (first | refine q07 ?_ _ | refine q08 ?_ | refine q06 ?_ _)); exact BK169.out) hb)
       have n2_ := q04.mk (q0a (by repeat (first | (with_reducible first | exact HB.out | apply q02 | apply q00 | apply q01 | refine q09 ?_ GE169.out) | exact HB.out)) hb)
       clear HO175
       clear BK169
       clear HB
       have HO175 := n0_
       have BK169 := n1_
       have HB := n2_
       clear n0_ n1_ n2_
       (try clear hb)
       (try clear hb2)
       (try clear hk)
       (try clear hi)
       refine hK.out _ _ ⟨(q03 BK169.out 0).trans rfl, (q03 BK169.out 1).trans rfl, (q03 BK169.out 2).trans rfl, (q03 BK169.out 3).trans rfl⟩ (fun hHeld => ?_)
       clear hK K
       refine norm_ (a' := ?_) ?_ ?_
       rotate_left
       ·show Act.put _ (some 21) _ = _
        simp only [Act.put, qa17, qb17, qc17, i64_w, i32_w]
        rfl
       refine pure_ (i := 8) (N := some 22) (v := ?_) (a' := ?_) #[true, true, true, true, true, true, true, true, true, true, true, false, false, true, true, true, true, true, false, false] rfl rfl (q0j HT_.out (by kernel_rfl)) (fun _ _ _ h => h) (Or.inl ⟨by rfl, ?_⟩) ?_ ?_
       rotate_left
       ·intro w'
        go_simp
        with_reducible rfl
       rotate_left
       ·simp only [Act.put, qa17, qb17, qc17, i64_w, i32_w]
        rfl
       exact norm_ (by first | (simp only [q0m, Act.put, qa17, qb17, qc17]; done) | (simp only [q0m, Act.put, qa17, qb17, qc17]; rfl)) (hJ2_7_16_17 (v174) _ ⟨hHeld, (by (with_reducible repeat (first | apply Kd.R_alloc | apply Kd.R_drewN | apply Kd.R_drew)); exact HO175.out), (by (with_reducible repeat (first | refine q07 ?_ _ | refine q08 ?_ | refine q06 ?_ _)); exact BK169.out), (by repeat (first | (with_reducible first | exact HB.out | apply q02 | apply q00 | apply q01 | refine q09 ?_ GE169.out) | exact HB.out))⟩)
     ·skip
      rintro v174 w31 ⟨hS_, h0_, h1_, h2_⟩
      have n0_ : q04 (Kd.R (Kd.int .u8) 5 w31 w.heap.size (fun _ => True) v174 y173) := ⟨h0_⟩
      have n1_ : q04 (w31.heap[gb169]? = some (.cells #[.string a0_0, .int .u64 a0_1, .int .i64 a0_2, .string a0_3] 28 (0, 0))) := ⟨h1_⟩
      have n2_ : q04 (Below w.heap.size w w31) := ⟨h2_⟩
      clear BK169
      clear HB
      clear h0_ h1_ h2_
      have HO175 := n0_
      have BK169 := n1_
      have HB := n2_
      clear n0_ n1_ n2_
      have hHeld : w31.cell? ⟨gb169, 0, none⟩ = some (.string a0_0) ∧ w31.cell? ⟨gb169, 1, none⟩ = some (.int .u64 a0_1) ∧ w31.cell? ⟨gb169, 2, none⟩ = some (.int .i64 a0_2) ∧ w31.cell? ⟨gb169, 3, none⟩ = some (.string a0_3) := hS_
      refine norm_ (a' := ?_) ?_ ?_
      rotate_left
      ·simp only [q0m, Act.put, qa17, qb17, qc17]
       rfl
      refine two_ (i := 11) (j := 17) (Ni := some 25) (Nj := some 31) #[true, true, true, true, true, true, true, true, true, true, true, true, false, true, true, true, true, false, false, false] #[true, true, true, true, true, true, true, true, true, true, true, false, false, true, true, true, true, true, false, false] rfl rfl rfl rfl (two_of HT_.out (by kernel_rfl)) (by decide) (by decide) (fun K hK => ?_) (fun K hK => ?_)
      ·skip
       refine goes_ Try.func36 (by kernel_rfl) rfl #[.int .u64 a0_1] (by rfl) rfl rfl (by (try simp only [List.map_toArray, List.map_cons, List.map_nil]); first | done | rfl | (simp only [List.length_drop, List.length_take]; rfl)) ?_
       with_reducible refine (code_PutUint.calls k20 a0_1 t172 _ A20.out).mono ?_
       rintro e w32 ⟨rfl, hb⟩
       refine ⟨_, rfl, ?_⟩
       have n0_ := q04.mk (Kd.R_below (by (with_reducible repeat (first | apply Kd.R_alloc | apply Kd.R_drewN | apply Kd.R_drew)); exact HO175.out) hb)
       have n1_ := q04.mk (q0f (g := gb169) (o := .cells #[.string a0_0, .int .u64 a0_1, .int .i64 a0_2, .string a0_3] 28 (0, 0)) (by (with_reducible repeat (first | refine q07 ?_ _ | refine q08 ?_ | refine q06 ?_ _)); exact BK169.out) hb)
       have n2_ := q04.mk (q0a (by repeat (first | (with_reducible first | exact HB.out | apply q02 | apply q00 | apply q01 | refine q09 ?_ GE169.out) | exact HB.out)) hb)
       clear HO175
       clear BK169
       clear HB
       have HO175 := n0_
       have BK169 := n1_
       have HB := n2_
       clear n0_ n1_ n2_
       (try clear hb)
       (try clear hb2)
       (try clear hk)
       (try clear hi)
       refine hK.out _ _ ⟨(q03 BK169.out 0).trans rfl, (q03 BK169.out 1).trans rfl, (q03 BK169.out 2).trans rfl, (q03 BK169.out 3).trans rfl⟩ (fun hHeld => ?_)
       clear hK K
       refine norm_ (a' := ?_) ?_ ?_
       rotate_left
       ·show Act.put _ (some 25) _ = _
        simp only [Act.put, qa17, qb17, qc17, i64_w, i32_w]
        rfl
       refine pure_ (i := 12) (N := some 26) (v := ?_) (a' := ?_) #[true, true, true, true, true, true, true, true, true, true, true, true, true, true, true, true, true, false, false, false] rfl rfl (q0j HT_.out (by kernel_rfl)) (fun _ _ _ h => h) (Or.inl ⟨by rfl, ?_⟩) ?_ ?_
       rotate_left
       ·intro w'
        go_simp
        with_reducible rfl
       rotate_left
       ·simp only [Act.put, qa17, qb17, qc17, i64_w, i32_w]
        rfl
       exact norm_ (by first | (simp only [q0m, Act.put, qa17, qb17, qc17]; done) | (simp only [q0m, Act.put, qa17, qb17, qc17]; rfl)) (hJ2_7_11_16 (v174) _ ⟨hHeld, (by (with_reducible repeat (first | apply Kd.R_alloc | apply Kd.R_drewN | apply Kd.R_drew)); exact HO175.out), (by (with_reducible repeat (first | refine q07 ?_ _ | refine q08 ?_ | refine q06 ?_ _)); exact BK169.out), (by repeat (first | (with_reducible first | exact HB.out | apply q02 | apply q00 | apply q01 | refine q09 ?_ GE169.out) | exact HB.out))⟩)
      ·skip
       have hcv32 := q14 (P := Try.prog) Try.underlying55 Try.underlying5 Try.underlying9 (Kd.own_of_R HO175.out)
       refine value_ (w1 := ?_) (v := ?_) (by rfl) rfl ?_ ?_
       rotate_left 2
       ·go_simp
        constructor
        ·rfl
        ·rfl
       clear hcv32
       refine hK.out _ _ ⟨(q03 BK169.out 0).trans rfl, (q03 BK169.out 1).trans rfl, (q03 BK169.out 2).trans rfl, (q03 BK169.out 3).trans rfl⟩ (fun hHeld => ?_)
       clear hK K
       refine norm_ (a' := ?_) ?_ ?_
       rotate_left
       ·show Act.put _ (some 31) _ = _
        simp only [Act.put, qa17, qb17, qc17, i64_w, i32_w]
        rfl
       exact norm_ (by first | (simp only [q0m, Act.put, qa17, qb17, qc17]; done) | (simp only [q0m, Act.put, qa17, qb17, qc17]; rfl)) (hJ2_7_16_17 (v174) _ ⟨hHeld, (by (with_reducible repeat (first | apply Kd.R_alloc | apply Kd.R_drewN | apply Kd.R_drew)); exact HO175.out), (by (with_reducible repeat (first | refine q07 ?_ _ | refine q08 ?_ | refine q06 ?_ _)); exact BK169.out), (by repeat (first | (with_reducible first | exact HB.out | apply q02 | apply q00 | apply q01 | refine q09 ?_ GE169.out) | exact HB.out))⟩)
    ·skip
     rintro _ w30 ⟨hS_, h0_, h1_⟩
     have n0_ : q04 (w30.heap[gb169]? = some (.cells #[.string a0_0, .int .u64 a0_1, .int .i64 a0_2, .string a0_3] 28 (0, 0))) := ⟨h0_⟩
     have n1_ : q04 (Below w.heap.size w w30) := ⟨h1_⟩
     clear BK169
     clear HB
     clear h0_ h1_
     have BK169 := n0_
     have HB := n1_
     clear n0_ n1_
     have hHeld : w30.cell? ⟨gb169, 0, none⟩ = some (.string a0_0) ∧ w30.cell? ⟨gb169, 1, none⟩ = some (.int .u64 a0_1) ∧ w30.cell? ⟨gb169, 2, none⟩ = some (.int .i64 a0_2) ∧ w30.cell? ⟨gb169, 3, none⟩ = some (.string a0_3) := hS_
     refine norm_ (a' := ?_) ?_ ?_
     rotate_left
     ·simp only [q0m, Act.put, qa17, qb17, qc17]
      rfl
     refine one_ (i := 16) (N := some 30) #[true, true, true, true, true, true, true, true, true, true, true, true, true, true, true, true, true, false, false, false] rfl rfl (q13 HT_.out (by kernel_rfl)) (by decide) (fun K hK => ?_)
     refine Kd.R_lit_step (Kd.int .u8) _ 5 ?hg (N := 30) ?hd (xs := ([(a0_2) % 256] : List Int)) (inner := [.int .u8 ((a0_2) % 256)]) (ok := fun _ => True) (okp := fun _ => True) ?hr ?hp (fun _ hk => hk) trivial (Below.refl _ _) (Nat.le_refl _) (by simp) ?_; (case hd => rfl); (case hg => rfl); (case hr => first | (go_simp; done) | (go_simp; rfl)); (case hp => exact (Reps.one (show Kd.M (Kd.int .u8) _ _ _ ((a0_2) % 256) [.int .u8 ((a0_2) % 256)] from rfl) (Reps.none _ _)))
     intro v174 w31 ho32 hb hg_ hnew_
     clear hg_ hnew_
     (first | rw [← Ny173.out] at ho32 | (simp only [Int.reduceToNat] at ho32; rw [← Ny173.out] at ho32))
     have n0_ := q04.mk (Kd.R_lower ho32 (q0e (by repeat (first | (with_reducible first | exact HB.out | apply q02 | apply q00 | apply q01 | refine q09 ?_ GE169.out) | exact HB.out))))
     have n1_ := q04.mk (q0f (g := gb169) (o := .cells #[.string a0_0, .int .u64 a0_1, .int .i64 a0_2, .string a0_3] 28 (0, 0)) (by (with_reducible repeat (first | refine q07 ?_ _ | refine q08 ?_ | refine q06 ?_ _)); exact BK169.out) hb)
     have n2_ := q04.mk (q0a (by repeat (first | (with_reducible first | exact HB.out | apply q02 | apply q00 | apply q01 | refine q09 ?_ GE169.out) | exact HB.out)) hb)
     clear BK169
     clear HB
     have HO175 := n0_
     have BK169 := n1_
     have HB := n2_
     clear n0_ n1_ n2_
     clear hb ho32
     refine hK.out _ _ ⟨(q03 BK169.out 0).trans rfl, (q03 BK169.out 1).trans rfl, (q03 BK169.out 2).trans rfl, (q03 BK169.out 3).trans rfl⟩ (fun hHeld => ?_)
     clear hK K
     refine norm_ (a' := ?_) ?_ ?_
     rotate_left
     ·show Act.put _ (some 30) _ = _
      simp only [Act.put, qa17, qb17, qc17, i64_w, i32_w]
      rfl
     exact norm_ (by first | (simp only [q0m, Act.put, qa17, qb17, qc17]; done) | (simp only [q0m, Act.put, qa17, qb17, qc17]; rfl)) (hJ2_7_11_16 (v174) _ ⟨hHeld, (by (with_reducible repeat (first | apply Kd.R_alloc | apply Kd.R_drewN | apply Kd.R_drew)); exact HO175.out), (by (with_reducible repeat (first | refine q07 ?_ _ | refine q08 ?_ | refine q06 ?_ _)); exact BK169.out), (by repeat (first | (with_reducible first | exact HB.out | apply q02 | apply q00 | apply q01 | refine q09 ?_ GE169.out) | exact HB.out))⟩)
   ·skip
    rintro v174 w32 ⟨hS_, h0_, h1_, h2_⟩
    have n0_ : q04 (Kd.R (Kd.int .u8) 5 w32 w.heap.size (fun _ => True) v174 y173) := ⟨h0_⟩
    have n1_ : q04 (w32.heap[gb169]? = some (.cells #[.string a0_0, .int .u64 a0_1, .int .i64 a0_2, .string a0_3] 28 (0, 0))) := ⟨h1_⟩
    have n2_ : q04 (Below w.heap.size w w32) := ⟨h2_⟩
    clear BK169
    clear HB
    clear h0_ h1_ h2_
    have HO175 := n0_
    have BK169 := n1_
    have HB := n2_
    clear n0_ n1_ n2_
    have hHeld : w32.cell? ⟨gb169, 0, none⟩ = some (.string a0_0) ∧ w32.cell? ⟨gb169, 1, none⟩ = some (.int .u64 a0_1) ∧ w32.cell? ⟨gb169, 2, none⟩ = some (.int .i64 a0_2) ∧ w32.cell? ⟨gb169, 3, none⟩ = some (.string a0_3) := hS_
    refine norm_ (a' := ?_) ?_ ?_
    rotate_left
    ·simp only [q0m, Act.put, qa17, qb17, qc17]
     rfl
    refine one_ (i := 11) (N := some 25) #[true, true, true, true, true, true, true, true, true, true, true, true, false, true, true, true, true, true, false, false] rfl rfl (q13 HT_.out (by kernel_rfl)) (by decide) (fun K hK => ?_)
    refine goes_ Try.func36 (by kernel_rfl) rfl #[.int .u64 a0_1] (by rfl) rfl rfl (by (try simp only [List.map_toArray, List.map_cons, List.map_nil]); first | done | rfl | (simp only [List.length_drop, List.length_take]; rfl)) ?_
    with_reducible refine (code_PutUint.calls k20 a0_1 t172 _ A20.out).mono ?_
    rintro e w33 ⟨rfl, hb⟩
    refine ⟨_, rfl, ?_⟩
    have n0_ := q04.mk (Kd.R_below (by (with_reducible repeat (first | apply Kd.R_alloc | apply Kd.R_drewN | apply Kd.R_drew)); exact HO175.out) hb)
    have n1_ := q04.mk (q0f (g := gb169) (o := .cells #[.string a0_0, .int .u64 a0_1, .int .i64 a0_2, .string a0_3] 28 (0, 0)) (by (with_reducible repeat (first | refine q07 ?_ _ | refine q08 ?_ | refine q06 ?_ _)); exact BK169.out) hb)
    have n2_ := q04.mk (q0a (by repeat (first | (with_reducible first | exact HB.out | apply q02 | apply q00 | apply q01 | refine q09 ?_ GE169.out) | exact HB.out)) hb)
    clear HO175
    clear BK169
    clear HB
    have HO175 := n0_
    have BK169 := n1_
    have HB := n2_
    clear n0_ n1_ n2_
    (try clear hb)
    (try clear hb2)
    (try clear hk)
    (try clear hi)
    refine hK.out _ _ ⟨(q03 BK169.out 0).trans rfl, (q03 BK169.out 1).trans rfl, (q03 BK169.out 2).trans rfl, (q03 BK169.out 3).trans rfl⟩ (fun hHeld => ?_)
    clear hK K
    refine norm_ (a' := ?_) ?_ ?_
    rotate_left
    ·show Act.put _ (some 25) _ = _
     simp only [Act.put, qa17, qb17, qc17, i64_w, i32_w]
     rfl
    refine pure_ (i := 12) (N := some 26) (v := ?_) (a' := ?_) #[true, true, true, true, true, true, true, true, true, true, true, true, true, true, true, true, true, true, false, false] rfl rfl (q0j HT_.out (by kernel_rfl)) (fun _ _ _ h => h) (Or.inl ⟨by rfl, ?_⟩) ?_ ?_
    rotate_left
    ·intro w'
     go_simp
     with_reducible rfl
    rotate_left
    ·simp only [Act.put, qa17, qb17, qc17, i64_w, i32_w]
     rfl
    exact norm_ (by first | (simp only [q0m, Act.put, qa17, qb17, qc17]; done) | (simp only [q0m, Act.put, qa17, qb17, qc17]; rfl)) (hJ2_7_11_16_17 (v174) _ ⟨hHeld, (by (with_reducible repeat (first | apply Kd.R_alloc | apply Kd.R_drewN | apply Kd.R_drew)); exact HO175.out), (by (with_reducible repeat (first | refine q07 ?_ _ | refine q08 ?_ | refine q06 ?_ _)); exact BK169.out), (by repeat (first | (with_reducible first | exact HB.out | apply q02 | apply q00 | apply q01 | refine q09 ?_ GE169.out) | exact HB.out))⟩)
  ·skip
   rintro v174 w32 ⟨hS_, h0_, h1_, h2_⟩
   have n0_ : q04 (Kd.R (Kd.int .u8) 5 w32 w.heap.size (fun _ => True) v174 y173) := ⟨h0_⟩
   have n1_ : q04 (w32.heap[gb169]? = some (.cells #[.string a0_0, .int .u64 a0_1, .int .i64 a0_2, .string a0_3] 28 (0, 0))) := ⟨h1_⟩
   have n2_ : q04 (Below w.heap.size w w32) := ⟨h2_⟩
   clear BK169
   clear HB
   clear h0_ h1_ h2_
   have HO175 := n0_
   have BK169 := n1_
   have HB := n2_
   clear n0_ n1_ n2_
   have hHeld : w32.cell? ⟨gb169, 0, none⟩ = some (.string a0_0) ∧ w32.cell? ⟨gb169, 1, none⟩ = some (.int .u64 a0_1) ∧ w32.cell? ⟨gb169, 2, none⟩ = some (.int .i64 a0_2) ∧ w32.cell? ⟨gb169, 3, none⟩ = some (.string a0_3) := hS_
   refine norm_ (a' := ?_) ?_ ?_
   rotate_left
   ·simp only [q0m, Act.put, qa17, qb17, qc17]
    rfl
   refine one_ (i := 17) (N := some 31) #[true, true, true, true, true, true, true, true, true, true, true, true, true, true, true, true, true, true, false, false] rfl rfl (q13 HT_.out (by kernel_rfl)) (by decide) (fun K hK => ?_)
   have hcv33 := q14 (P := Try.prog) Try.underlying55 Try.underlying5 Try.underlying9 (Kd.own_of_R HO175.out)
   refine value_ (w1 := ?_) (v := ?_) (by rfl) rfl ?_ ?_
   rotate_left 2
   ·go_simp
    constructor
    ·rfl
    ·rfl
   clear hcv33
   refine hK.out _ _ ⟨(q03 BK169.out 0).trans rfl, (q03 BK169.out 1).trans rfl, (q03 BK169.out 2).trans rfl, (q03 BK169.out 3).trans rfl⟩ (fun hHeld => ?_)
   clear hK K
   refine norm_ (a' := ?_) ?_ ?_
   rotate_left
   ·show Act.put _ (some 31) _ = _
    simp only [Act.put, qa17, qb17, qc17, i64_w, i32_w]
    rfl
   exact norm_ (by first | (simp only [q0m, Act.put, qa17, qb17, qc17]; done) | (simp only [q0m, Act.put, qa17, qb17, qc17]; rfl)) (hJ2_7_11_16_17 (v174) _ ⟨hHeld, (by (with_reducible repeat (first | apply Kd.R_alloc | apply Kd.R_drewN | apply Kd.R_drew)); exact HO175.out), (by (with_reducible repeat (first | refine q07 ?_ _ | refine q08 ?_ | refine q06 ?_ _)); exact BK169.out), (by repeat (first | (with_reducible first | exact HB.out | apply q02 | apply q00 | apply q01 | refine q09 ?_ GE169.out) | exact HB.out))⟩)
 rintro v174 w33 ⟨hS_, h0_, h1_, h2_⟩
 have n0_ : q04 (Kd.R (Kd.int .u8) 5 w33 w.heap.size (fun _ => True) v174 y173) := ⟨h0_⟩
 have n1_ : q04 (w33.heap[gb169]? = some (.cells #[.string a0_0, .int .u64 a0_1, .int .i64 a0_2, .string a0_3] 28 (0, 0))) := ⟨h1_⟩
 have n2_ : q04 (Below w.heap.size w w33) := ⟨h2_⟩
 clear BK169
 clear HB
 clear h0_ h1_ h2_
 have HO175 := n0_
 have BK169 := n1_
 have HB := n2_
 clear n0_ n1_ n2_
 have hHeld : w33.cell? ⟨gb169, 0, none⟩ = some (.string a0_0) ∧ w33.cell? ⟨gb169, 1, none⟩ = some (.int .u64 a0_1) ∧ w33.cell? ⟨gb169, 2, none⟩ = some (.int .i64 a0_2) ∧ w33.cell? ⟨gb169, 3, none⟩ = some (.string a0_3) := hS_
 refine norm_ (a' := ?_) ?_ ?_
 rotate_left
 ·simp only [q0m, Act.put, qa17, qb17, qc17]
  rfl
 refine pure_ (i := 18) (N := some 32) (v := ?_) (a' := ?_) #[true, true, true, true, true, true, true, true, true, true, true, true, true, true, true, true, true, true, true, false] rfl rfl (q0j HT_.out (by kernel_rfl)) (fun _ _ _ h => h) (Or.inl ⟨by rfl, ?_⟩) ?_ ?_
 rotate_left
 ·intro w'
  go_simp
  with_reducible rfl
 rotate_left
 ·simp only [Act.put, qa17, qb17, qc17, i64_w, i32_w]
  rfl
 refine pure_ (i := 19) (N := some 7) (v := ?_) (a' := ?_) #[true, true, true, true, true, true, true, true, true, true, true, true, true, true, true, true, true, true, true, true] rfl rfl (q0j HT_.out (by kernel_rfl)) (fun _ _ _ h => h) (Or.inl ⟨by rfl, ?_⟩) ?_ ?_
 rotate_left
 ·intro w'
  go_simp
  with_reducible rfl
 rotate_left
 ·simp only [Act.put, qa17, qb17, qc17, i64_w, i32_w]
  rfl
 refine done_ (q1u HT_.out (by kernel_rfl)) ?_
 have hcz34_0 : w33.cell? ⟨gb169, 0, none⟩ = some (.string a0_0) := (q03 BK169.out 0).trans rfl
 have hcz34_1 : w33.cell? ⟨gb169, 1, none⟩ = some (.int .u64 a0_1) := (q03 BK169.out 1).trans rfl
 have hcz34_2 : w33.cell? ⟨gb169, 2, none⟩ = some (.int .i64 a0_2) := (q03 BK169.out 2).trans rfl
 have hcz34_3 : w33.cell? ⟨gb169, 3, none⟩ = some (.string a0_3) := (q03 BK169.out 3).trans rfl
 have hfz34_0 := q05 BK169.out 0
 have hfz34_1 := q05 BK169.out 1
 have hfz34_2 := q05 BK169.out 2
 have hfz34_3 := q05 BK169.out 3
 have HV := Lib.hid (HW.out.below HB.out)
 have HI := Lib.hid (show Blk w33 gb169 28 #[.string a0_0, .int .u64 a0_1, .int .i64 a0_2, .string a0_3] from BK169.out)
 obtain ⟨i0, hi, hz0, hz1, hz2⟩ := info_parts infoU8
 have hz := HZ.out
 have hkk := HK.out
 by_cases ck : a0_2 = 1
 ·have ckb : (a0_2 == 1) = true := beq_iff_eq.2 ck
  have HE2 := HE.out
  rw [if_pos ck] at HE2
  replace HE2 := Lib.hid HE2
  have c25b2 : (9223372036854775807 < (((t170 ++ t171) ++ t172) ++ (strOfNums y173)).size + t176.size) = False := eq_false (by simp only [ByteArray.size_append]; omega)
  have c25b6 : (9223372036854775807 < t170.size + t171.size + t172.size + (strOfNums y173).size + t176.size) = False := eq_false (by omega)
  have hts0 : ((((t170 ++ t171) ++ t172) ++ strOfNums y173) ++ t176).size ≤ 5000 := by simp only [ByteArray.size_append]; omega
  clear ck HE hz
  go_wp2_with fail
  refine (HP4.out _).mono ?_
  rintro e w4 ⟨rfl, hb4⟩
  replace HV := Lib.hid (HV.out.below hb4)
  replace HI := Lib.hid (HI.out.below hb4 HI.out.lt)
  clear hb4
  go_wp2_with fail
  generalize hts : (((t170 ++ t171) ++ t172) ++ strOfNums y173) ++ t176 = ts at hts0 HE2 ⊢
  clear hts
  clear c25b2 c25b6
  have m0 : w4.cell? ⟨gb169, 0, none⟩ = some (.string a0_0) := (HI.out.cell 0).trans rfl
  have m1 : w4.cell? ⟨b1, 0, none⟩ = some v := (HV.out.out.cell 0).trans rfl
  have m3 : w4.cell? ⟨b3, 0, none⟩ = some (.pointer (some ⟨b1, 0, none⟩)) := (HV.out.ptr.cell 0).trans rfl
  have nb1 : gb169 ≠ b1 := HI.out.ne_ HV.out.out (by decide)
  have nb3 : b1 ≠ b3 := HV.out.out.ne_ HV.out.ptr (by decide)
  have nb2 : gb169 ≠ b2 := HI.out.ne_ HV.out.lst (by decide)
  have nb12 : b1 ≠ b2 := HV.out.out.ne_ HV.out.lst (by decide)
  replace HV := Lib.hid HV.out.drew
  replace HI := Lib.hid HI.out.drew
  refine start_ (n := 11) (S := fun w' => w'.cell? ⟨gb169, 0, none⟩ = some (.string a0_0) ∧ w'.cell? ⟨b3, 0, none⟩ = some (.pointer (some ⟨b1, 0, none⟩))) (ds := []) #[false, false, false, false, false, false, false, false, false, false, false] (by kernel_rfl) rfl rfl ⟨m0, m3⟩ (fun hHeld => ?_); refine q16 tabW7 bitsW7 (fun HT_ HW_ => ?_)
  clear m0 m1 m3
  generalize w4.drew = wy at HV HI hHeld ⊢
  have m0 : wy.cell? ⟨gb169, 0, none⟩ = some (.string a0_0) := (HI.out.cell 0).trans rfl
  have m1 : wy.cell? ⟨b1, 0, none⟩ = some v := (HV.out.out.cell 0).trans rfl
  have m3 : wy.cell? ⟨b3, 0, none⟩ = some (.pointer (some ⟨b1, 0, none⟩)) := (HV.out.ptr.cell 0).trans rfl
  refine take_ (i := 0) (N := some 41) (v := ?_) (a' := ?_) #[true, false, false, false, false, false, false, false, false, false, false] rfl rfl (q0w HT_.out HW_.out (by kernel_rfl)) (fun _ _ _ h => h) (Or.inl ⟨by rfl, ?_⟩) hHeld ?_ ?_
  rotate_left
  ·rintro w' ⟨s0, s1⟩
   go_simp
   with_reducible rfl
  rotate_left
  ·simp only [Act.put, qa17, qb17, qc17, i64_w, i32_w]
   rfl
  refine take_ (i := 1) (N := some 42) (v := ?_) (a' := ?_) #[true, true, false, false, false, false, false, false, false, false, false] rfl rfl (q0w HT_.out HW_.out (by kernel_rfl)) (fun _ _ _ h => h) (Or.inl ⟨by rfl, ?_⟩) hHeld ?_ ?_
  rotate_left
  ·rintro w' ⟨s0, s1⟩
   go_simp
   with_reducible rfl
  rotate_left
  ·simp only [Act.put, qa17, qb17, qc17, i64_w, i32_w]
   rfl
  refine pure_ (i := 2) (N := some 43) (v := ?_) (a' := ?_) #[true, true, true, false, false, false, false, false, false, false, false] rfl rfl (q0j HT_.out (by kernel_rfl)) (fun _ _ _ h => h) (Or.inl ⟨by rfl, ?_⟩) ?_ ?_
  rotate_left
  ·intro w'
   go_simp
   with_reducible rfl
  rotate_left
  ·simp only [Act.put, qa17, qb17, qc17, i64_w, i32_w]
   rfl
  refine pure_ (i := 4) (N := some 45) (v := ?_) (a' := ?_) #[true, true, true, false, true, false, false, false, false, false, false] rfl rfl (q0j HT_.out (by kernel_rfl)) (fun _ _ _ h => h) (Or.inl ⟨by rfl, ?_⟩) ?_ ?_
  rotate_left
  ·intro w'
   go_simp
   with_reducible rfl
  rotate_left
  ·simp only [Act.put, qa17, qb17, qc17, i64_w, i32_w]
   rfl
  refine pure_ (i := 6) (N := some 47) (v := ?_) (a' := ?_) #[true, true, true, false, true, false, true, false, false, false, false] rfl rfl (q0j HT_.out (by kernel_rfl)) (fun _ _ _ h => h) (Or.inl ⟨by rfl, ?_⟩) ?_ ?_
  rotate_left
  ·intro w'
   go_simp
   with_reducible rfl
  rotate_left
  ·simp only [Act.put, qa17, qb17, qc17, i64_w, i32_w]
   rfl
  refine take_ (i := 7) (N := some 48) (v := ?_) (a' := ?_) #[true, true, true, false, true, false, true, true, false, false, false] rfl rfl (q0w HT_.out HW_.out (by kernel_rfl)) (fun _ _ _ h => h) (Or.inl ⟨by rfl, ?_⟩) hHeld ?_ ?_
  rotate_left
  ·rintro w' ⟨s0, s1⟩
   go_simp
   with_reducible rfl
  rotate_left
  ·simp only [Act.put, qa17, qb17, qc17, i64_w, i32_w]
   rfl
  refine one_ (i := 3) (N := some 44) #[true, true, true, true, true, false, true, true, false, false, false] rfl rfl (q13 HT_.out (by kernel_rfl)) (by decide) (fun K hK => ?_)
  refine value_ (w1 := wy) (v := v) rfl rfl (by go_simp) ?_
  refine hK.out _ _ ⟨m0, m3⟩ (fun hHeld => ?_)
  clear hK K
  refine norm_ (a' := ?_) ?_ ?_
  rotate_left
  ·show Act.put _ (some 44) _ = _
   simp only [Act.put, qa17, qb17, qc17, i64_w, i32_w]
   rfl
  refine one_ (i := 5) (N := some 46) #[true, true, true, true, true, true, true, true, false, false, false] rfl rfl (q13 HT_.out (by kernel_rfl)) (by decide) (fun K hK => ?_)
  refine q1j rfl (.tmp 44) (.tmp 45) 55 9 rfl w0.heap.size 5 i0 Try.underlying55 Try.underlying9 hi hz0 hz1 hz2 v xs.size (Lib.strCells xs) rfl HV.out.row ts rfl (by unfold maxLen; omega) (by omega) HV.out.low.size ?_
  intro v1 w1 hown1 hg1
  obtain ⟨vA, vn, vc, rfl⟩ := own_slice hown1
  have hcells := HV.out.kept HI.out hg1
  have j0 := hcells.1
  have j3 := hcells.2
  have f1 := (HV.out.out.grown hg1 (fun e => q12 HV.out.row HV.out.out (by decide) e.symm))
  have f2 := (HV.out.lst.grown hg1 (fun e => q12 HV.out.row HV.out.lst (by decide) e.symm))
  have q1 : w1.cell? ⟨b1, 0, none⟩ = some v := (f1.cell 0).trans rfl
  have q2 : w1.cell? ⟨b2, 0, none⟩ = some (.string last) := (f2.cell 0).trans rfl
  have q1f := f1.frozen 0
  have q2f := f2.frozen 0
  have f3 : Blk (w1.setCell ⟨b1, 0, none⟩ (.slice vA vn vc)) b2 9 #[.string last] := f2.far (Ne.symm nb12) _
  have q3 : (w1.setCell ⟨b1, 0, none⟩ (.slice vA vn vc)).cell? ⟨b2, 0, none⟩ = some (.string last) := (f3.cell 0).trans rfl
  have q3f := f3.frozen 0
  have HP := Lib.hid (HV.out.put hown1 hg1 a0_0)
  clear f1 f2 f3
  refine hK.out _ _ ⟨j0, j3⟩ (fun hHeld => ?_)
  clear hK K
  refine norm_ (a' := ?_) ?_ ?_
  rotate_left
  ·show Act.put _ (some 46) _ = _
   simp only [Act.put, qa17, qb17, qc17, i64_w, i32_w]
   rfl
  refine one_ (i := 8) (N := some 49) #[true, true, true, true, true, true, true, true, true, false, false] rfl rfl (q13 HT_.out (by kernel_rfl)) (by decide) (fun K hK => ?_)
  refine value_ (w1 := w1) (v := .pointer (some ⟨b1, 0, none⟩)) rfl rfl (by go_simp) ?_
  refine hK.out _ _ ⟨j0, j3⟩ (fun hHeld => ?_)
  clear hK K
  refine norm_ (a' := ?_) ?_ ?_
  rotate_left
  ·show Act.put _ (some 49) _ = _
   simp only [Act.put, qa17, qb17, qc17, i64_w, i32_w]
   rfl
  refine one_ (i := 9) (N := none) #[true, true, true, true, true, true, true, true, true, true, false] rfl rfl (q13 HT_.out (by kernel_rfl)) (by decide) (fun K hK => ?_)
  refine skip_ (w1 := w1.setCell ⟨b1, 0, none⟩ (.slice vA vn vc)) rfl rfl (by go_simp) ?_
  refine hK.out _ _ ⟨(World.cell?_setCell_other _ _ _ _ (by intro e; injection e with e; exact nb1 e.symm)).trans j0, (World.cell?_setCell_other _ _ _ _ (by intro e; injection e with e; exact nb3 e)).trans j3⟩ (fun hHeld => ?_)
  clear hK K
  refine one_ (i := 10) (N := none) #[true, true, true, true, true, true, true, true, true, true, true] rfl rfl (q13 HT_.out (by kernel_rfl)) (by decide) (fun K hK => ?_)
  refine skip_ (w1 := (w1.setCell ⟨b1, 0, none⟩ (.slice vA vn vc)).setCell ⟨b2, 0, none⟩ (.string a0_0)) rfl rfl (by go_simp) ?_
  refine hK.out _ _ ⟨(World.cell?_setCell_other _ _ _ _ (by intro e; injection e with e; exact nb2 e.symm)).trans hHeld.1, (HP.out.ptr.cell 0).trans rfl⟩ (fun hHeld => ?_)
  clear hK K
  refine done_ (q1u HT_.out (by kernel_rfl)) ?_
  clear m0 m1 m3 q1 q2 q3 q1f q2f q3f j0 j3 hcells
  have HF := HP.out
  rw [← HE2.out] at HF
  clear HP HV HI HW
  show bodyPost _ _ (fun e w' => e = .returned (.tuple #[]) ∧ ∃ v', W3 w0 w' b1 b2 b3 v' (xs ++ B (PBlock.rowEnc (rowOf a0_0 a0_1 a0_2 a0_3) [])) a0_0) _ _ _
  simp [bodyPost, results, Try.results80]
  exact ⟨_, HF⟩
 ·have ckb : (a0_2 == 1) = false := beq_eq_false_iff_ne.2 ck
  have HE2 := HE.out.trans (show _ = ((t170 ++ t171) ++ t172) ++ strOfNums y173 by rw [if_neg ck]; apply L_inj; simp [q0t])
  replace HE2 := Lib.hid HE2
  have hts0 : (((t170 ++ t171) ++ t172) ++ strOfNums y173).size ≤ 5000 := by simp only [ByteArray.size_append]; omega
  clear ck HE hz
  go_wp2_with fail
  generalize hts : ((t170 ++ t171) ++ t172) ++ strOfNums y173 = ts at hts0 HE2 ⊢
  clear hts
  clear hcz34_0 hcz34_1 hcz34_2 hcz34_3
  have m0 : w33.cell? ⟨gb169, 0, none⟩ = some (.string a0_0) := (HI.out.cell 0).trans rfl
  have m1 : w33.cell? ⟨b1, 0, none⟩ = some v := (HV.out.out.cell 0).trans rfl
  have m3 : w33.cell? ⟨b3, 0, none⟩ = some (.pointer (some ⟨b1, 0, none⟩)) := (HV.out.ptr.cell 0).trans rfl
  have nb1 : gb169 ≠ b1 := HI.out.ne_ HV.out.out (by decide)
  have nb3 : b1 ≠ b3 := HV.out.out.ne_ HV.out.ptr (by decide)
  have nb2 : gb169 ≠ b2 := HI.out.ne_ HV.out.lst (by decide)
  have nb12 : b1 ≠ b2 := HV.out.out.ne_ HV.out.lst (by decide)
  replace HV := Lib.hid HV.out.drew
  replace HI := Lib.hid HI.out.drew
  refine start_ (n := 11) (S := fun w' => w'.cell? ⟨gb169, 0, none⟩ = some (.string a0_0) ∧ w'.cell? ⟨b3, 0, none⟩ = some (.pointer (some ⟨b1, 0, none⟩))) (ds := []) #[false, false, false, false, false, false, false, false, false, false, false] (by kernel_rfl) rfl rfl ⟨m0, m3⟩ (fun hHeld => ?_); refine q16 tabW7 bitsW7 (fun HT_ HW_ => ?_)
  clear m0 m1 m3
  generalize w33.drew = wy at HV HI hHeld ⊢
  have m0 : wy.cell? ⟨gb169, 0, none⟩ = some (.string a0_0) := (HI.out.cell 0).trans rfl
  have m1 : wy.cell? ⟨b1, 0, none⟩ = some v := (HV.out.out.cell 0).trans rfl
  have m3 : wy.cell? ⟨b3, 0, none⟩ = some (.pointer (some ⟨b1, 0, none⟩)) := (HV.out.ptr.cell 0).trans rfl
  refine take_ (i := 0) (N := some 41) (v := ?_) (a' := ?_) #[true, false, false, false, false, false, false, false, false, false, false] rfl rfl (q0w HT_.out HW_.out (by kernel_rfl)) (fun _ _ _ h => h) (Or.inl ⟨by rfl, ?_⟩) hHeld ?_ ?_
  rotate_left
  ·rintro w' ⟨s0, s1⟩
   go_simp
   with_reducible rfl
  rotate_left
  ·simp only [Act.put, qa17, qb17, qc17, i64_w, i32_w]
   rfl
  refine take_ (i := 1) (N := some 42) (v := ?_) (a' := ?_) #[true, true, false, false, false, false, false, false, false, false, false] rfl rfl (q0w HT_.out HW_.out (by kernel_rfl)) (fun _ _ _ h => h) (Or.inl ⟨by rfl, ?_⟩) hHeld ?_ ?_
  rotate_left
  ·rintro w' ⟨s0, s1⟩
   go_simp
   with_reducible rfl
  rotate_left
  ·simp only [Act.put, qa17, qb17, qc17, i64_w, i32_w]
   rfl
  refine pure_ (i := 2) (N := some 43) (v := ?_) (a' := ?_) #[true, true, true, false, false, false, false, false, false, false, false] rfl rfl (q0j HT_.out (by kernel_rfl)) (fun _ _ _ h => h) (Or.inl ⟨by rfl, ?_⟩) ?_ ?_
  rotate_left
  ·intro w'
   go_simp
   with_reducible rfl
  rotate_left
  ·simp only [Act.put, qa17, qb17, qc17, i64_w, i32_w]
   rfl
  refine pure_ (i := 4) (N := some 45) (v := ?_) (a' := ?_) #[true, true, true, false, true, false, false, false, false, false, false] rfl rfl (q0j HT_.out (by kernel_rfl)) (fun _ _ _ h => h) (Or.inl ⟨by rfl, ?_⟩) ?_ ?_
  rotate_left
  ·intro w'
   go_simp
   with_reducible rfl
  rotate_left
  ·simp only [Act.put, qa17, qb17, qc17, i64_w, i32_w]
   rfl
  refine pure_ (i := 6) (N := some 47) (v := ?_) (a' := ?_) #[true, true, true, false, true, false, true, false, false, false, false] rfl rfl (q0j HT_.out (by kernel_rfl)) (fun _ _ _ h => h) (Or.inl ⟨by rfl, ?_⟩) ?_ ?_
  rotate_left
  ·intro w'
   go_simp
   with_reducible rfl
  rotate_left
  ·simp only [Act.put, qa17, qb17, qc17, i64_w, i32_w]
   rfl
  refine take_ (i := 7) (N := some 48) (v := ?_) (a' := ?_) #[true, true, true, false, true, false, true, true, false, false, false] rfl rfl (q0w HT_.out HW_.out (by kernel_rfl)) (fun _ _ _ h => h) (Or.inl ⟨by rfl, ?_⟩) hHeld ?_ ?_
  rotate_left
  ·rintro w' ⟨s0, s1⟩
   go_simp
   with_reducible rfl
  rotate_left
  ·simp only [Act.put, qa17, qb17, qc17, i64_w, i32_w]
   rfl
  refine one_ (i := 3) (N := some 44) #[true, true, true, true, true, false, true, true, false, false, false] rfl rfl (q13 HT_.out (by kernel_rfl)) (by decide) (fun K hK => ?_)
  refine value_ (w1 := wy) (v := v) rfl rfl (by go_simp) ?_
  refine hK.out _ _ ⟨m0, m3⟩ (fun hHeld => ?_)
  clear hK K
  refine norm_ (a' := ?_) ?_ ?_
  rotate_left
  ·show Act.put _ (some 44) _ = _
   simp only [Act.put, qa17, qb17, qc17, i64_w, i32_w]
   rfl
  refine one_ (i := 5) (N := some 46) #[true, true, true, true, true, true, true, true, false, false, false] rfl rfl (q13 HT_.out (by kernel_rfl)) (by decide) (fun K hK => ?_)
  refine q1j rfl (.tmp 44) (.tmp 45) 55 9 rfl w0.heap.size 5 i0 Try.underlying55 Try.underlying9 hi hz0 hz1 hz2 v xs.size (Lib.strCells xs) rfl HV.out.row ts rfl (by unfold maxLen; omega) (by omega) HV.out.low.size ?_
  intro v1 w1 hown1 hg1
  obtain ⟨vA, vn, vc, rfl⟩ := own_slice hown1
  have hcells := HV.out.kept HI.out hg1
  have j0 := hcells.1
  have j3 := hcells.2
  have f1 := (HV.out.out.grown hg1 (fun e => q12 HV.out.row HV.out.out (by decide) e.symm))
  have f2 := (HV.out.lst.grown hg1 (fun e => q12 HV.out.row HV.out.lst (by decide) e.symm))
  have q1 : w1.cell? ⟨b1, 0, none⟩ = some v := (f1.cell 0).trans rfl
  have q2 : w1.cell? ⟨b2, 0, none⟩ = some (.string last) := (f2.cell 0).trans rfl
  have q1f := f1.frozen 0
  have q2f := f2.frozen 0
  have f3 : Blk (w1.setCell ⟨b1, 0, none⟩ (.slice vA vn vc)) b2 9 #[.string last] := f2.far (Ne.symm nb12) _
  have q3 : (w1.setCell ⟨b1, 0, none⟩ (.slice vA vn vc)).cell? ⟨b2, 0, none⟩ = some (.string last) := (f3.cell 0).trans rfl
  have q3f := f3.frozen 0
  have HP := Lib.hid (HV.out.put hown1 hg1 a0_0)
  clear f1 f2 f3
  refine hK.out _ _ ⟨j0, j3⟩ (fun hHeld => ?_)
  clear hK K
  refine norm_ (a' := ?_) ?_ ?_
  rotate_left
  ·show Act.put _ (some 46) _ = _
   simp only [Act.put, qa17, qb17, qc17, i64_w, i32_w]
   rfl
  refine one_ (i := 8) (N := some 49) #[true, true, true, true, true, true, true, true, true, false, false] rfl rfl (q13 HT_.out (by kernel_rfl)) (by decide) (fun K hK => ?_)
  refine value_ (w1 := w1) (v := .pointer (some ⟨b1, 0, none⟩)) rfl rfl (by go_simp) ?_
  refine hK.out _ _ ⟨j0, j3⟩ (fun hHeld => ?_)
  clear hK K
  refine norm_ (a' := ?_) ?_ ?_
  rotate_left
  ·show Act.put _ (some 49) _ = _
   simp only [Act.put, qa17, qb17, qc17, i64_w, i32_w]
   rfl
  refine one_ (i := 9) (N := none) #[true, true, true, true, true, true, true, true, true, true, false] rfl rfl (q13 HT_.out (by kernel_rfl)) (by decide) (fun K hK => ?_)
  refine skip_ (w1 := w1.setCell ⟨b1, 0, none⟩ (.slice vA vn vc)) rfl rfl (by go_simp) ?_
  refine hK.out _ _ ⟨(World.cell?_setCell_other _ _ _ _ (by intro e; injection e with e; exact nb1 e.symm)).trans j0, (World.cell?_setCell_other _ _ _ _ (by intro e; injection e with e; exact nb3 e)).trans j3⟩ (fun hHeld => ?_)
  clear hK K
  refine one_ (i := 10) (N := none) #[true, true, true, true, true, true, true, true, true, true, true] rfl rfl (q13 HT_.out (by kernel_rfl)) (by decide) (fun K hK => ?_)
  refine skip_ (w1 := (w1.setCell ⟨b1, 0, none⟩ (.slice vA vn vc)).setCell ⟨b2, 0, none⟩ (.string a0_0)) rfl rfl (by go_simp) ?_
  refine hK.out _ _ ⟨(World.cell?_setCell_other _ _ _ _ (by intro e; injection e with e; exact nb2 e.symm)).trans hHeld.1, (HP.out.ptr.cell 0).trans rfl⟩ (fun hHeld => ?_)
  clear hK K
  refine done_ (q1u HT_.out (by kernel_rfl)) ?_
  clear m0 m1 m3 q1 q2 q3 q1f q2f q3f j0 j3 hcells
  have HF := HP.out
  rw [← HE2.out] at HF
  clear HP HV HI HW
  show bodyPost _ _ (fun e w' => e = .returned (.tuple #[]) ∧ ∃ v', W3 w0 w' b1 b2 b3 v' (xs ++ B (PBlock.rowEnc (rowOf a0_0 a0_1 a0_2 a0_3) [])) a0_0) _ _ _
  simp [bodyPost, results, Try.results80]
  exact ⟨_, HF⟩
set_option maxRecDepth 100000 in
set_option maxHeartbeats 8000000 in
theorem write_next (w0 w : World) (b1 b2 b3 : Nat) (v : Value) (xs last a0_0 a0_3 : ByteArray) (a0_1 a0_2 : Int)
  (h : W3 w0 w b1 b2 b3 v xs last) (hk : a0_0.size ≤ 520) (hv : a0_3.size ≤ 2048) (hx : xs.size ≤ 100000) (hl : last.size ≤ 520) (s0 : 0 ≤ a0_1) (s1 : a0_1 < 18446744073709551616) :
  Calls Try.prog 80 #[.agg #[.string a0_0, .int .u64 a0_1, .int .i64 a0_2, .string a0_3], .bool false, .pointer (some ⟨b2, 0, none⟩), .pointer (some ⟨b3, 0, none⟩)] w fun e w' => e = .returned (.tuple #[]) ∧
   ∃ v', W3 w0 w' b1 b2 b3 v' (xs ++ B (PBlock.rowEnc (rowOf a0_0 a0_1 a0_2 a0_3) (L last))) a0_0 := by
 have HW := Lib.hid h
 have hlt2 := h.lst.lt
 have c2 := (h.lst.cell 0).trans rfl
 have c3 := (h.ptr.cell 0).trans rfl
 clear h
 have hcm := PBlock.common_le (L last) (L a0_0)
 rw [q0g, q0g] at hcm
 have c2n : (w.alloc (.cells #[.string a0_0, .int .u64 a0_1, .int .i64 a0_2, .string a0_3] 28)).cell? ⟨b2, 0, none⟩ = some (.string last) := ((HW.out.lst.alloc _).cell 0).trans rfl
 have kn1 : (w.alloc (.cells #[.string a0_0, .int .u64 a0_1, .int .i64 a0_2, .string a0_3] 28)).cell? ⟨w.heap.size, 0, none⟩ = some (.string a0_0) := ((Blk.new w _ _).cell 0).trans rfl
 go_enter Try.func80, Try.ntmps80
 go_wp2_with fail
 refine (common_any last a0_0 (by omega) _).mono ?_
 rintro e w' ⟨rfl, nd, rfl⟩
 go_wp2_with fail
 generalize hN : PBlock.common (L last) (L a0_0) = nn at hcm ⊢
 obtain ⟨x5_2, hn⟩ : ∃ x : Int, x = (nn : Int) := ⟨_, rfl⟩
 rw [← hn]
 have hnk : nn ≤ a0_0.size := hcm.2
 have BK169 := q04.mk ((Blk.new w 28 #[.string a0_0, .int .u64 a0_1, .int .i64 a0_2, .string a0_3]).drewN nd)
 have HB := q04.mk (q0z ((Below.refl w.heap.size w).alloc (Nat.le_refl _) (.cells #[.string a0_0, .int .u64 a0_1, .int .i64 a0_2, .string a0_3] 28)) nd)
 have GE169 : q04 (w.heap.size ≤ w.heap.size) := ⟨Nat.le_refl _⟩
 generalize hgb : w.heap.size = gb169 at BK169 GE169 ⊢
 generalize (w.alloc _).drewN nd = wc at BK169 HB ⊢
 clear c2 c3 c2n kn1 hcm
 rw [hgb] at hlt2
 obtain ⟨k15, A15⟩ : ∃ k, code_PutUint.f k (IntKind.u64.wrap x5_2) = some (B (PCode.putUint nn)) := by
  rw [show IntKind.u64.wrap x5_2 = (nn : Int) by rw [hn]; exact q0o (by omega) (by omega)]
  exact (code_put nn (by omega)).rounds
 obtain ⟨k18, A18⟩ : ∃ k, code_PutField.f k (a0_0.extract (x5_2 : Int).toNat a0_0.size) = some (B (PCode.putField ((L a0_0).drop nn))) := by
  have e := (code_putField (a0_0.extract (x5_2 : Int).toNat a0_0.size) (by rw [ByteArray.size_extract]; omega)).rounds
  rw [hn, Int.toNat_natCast, L_drop] at e
  rw [hn, Int.toNat_natCast]
  exact e
 obtain ⟨k20, A20⟩ : ∃ k, code_PutUint.f k a0_1 = some (B (PCode.putUint a0_1.toNat)) := by
  obtain ⟨m, hm⟩ := Int.eq_ofNat_of_zero_le s0
  subst hm
  exact (code_put m (by omega)).rounds
 have z1 : (B (PCode.putUint nn)).size ≤ 10 := by rw [q0n]; exact PCode.putUint_length_ten (by omega)
 have z2 : (B (PCode.putField ((L a0_0).drop nn))).size ≤ 530 := by
  have e1 : ((L a0_0).drop nn).length ≤ 520 := by rw [List.length_drop, q0g]; omega
  have := PCode.putUint_length_ten (n := ((L a0_0).drop nn).length) (by omega)
  rw [q0n]; unfold PCode.putField; rw [List.length_append]; omega
 have z3 : (B (PCode.putUint a0_1.toNat)).size ≤ 10 := by rw [q0n]; exact PCode.putUint_length_ten (by omega)
 have P4 := fun w' => putField_any a0_3 (by omega) w'
 have z4 : (B (PCode.putField (L a0_3))).size ≤ 2060 := by
  have := PCode.putUint_length_ten (n := (L a0_3).length) (by rw [q0g]; omega)
  rw [q0n]; unfold PCode.putField; rw [List.length_append, q0g] at *; omega
 obtain ⟨y173, Ny173⟩ : ∃ y : List Int, y = [(a0_2) % 256] := ⟨_, rfl⟩
 have z5 : (strOfNums y173).size = 1 := by rw [Ny173]; rfl
 have HE : B (PBlock.rowEnc (rowOf a0_0 a0_1 a0_2 a0_3) (L last)) = (((B (PCode.putUint nn) ++ B (PCode.putField ((L a0_0).drop nn))) ++ B (PCode.putUint a0_1.toNat)) ++ strOfNums y173) ++ (if a0_2 = 1 then B (PCode.putField (L a0_3)) else B []) := by
  rw [Ny173]
  apply L_inj
  simp only [q0t, L_B]
  unfold PBlock.rowEnc rowOf
  dsimp only
  rw [hN, L_nums]
  simp only [List.append_assoc]
  congr 3
  by_cases e : a0_2 = 1
  ·rw [if_pos e, if_pos e]; rfl
  ·rw [if_neg e, if_neg e]; rfl
 replace HE := Lib.hid HE
 replace Ny173 := q04.mk Ny173
 replace A15 := q04.mk A15
 replace A18 := q04.mk A18
 replace A20 := q04.mk A20
 generalize B (PCode.putUint nn) = t170 at A15 z1 HE
 generalize B (PCode.putField ((L a0_0).drop nn)) = t171 at A18 z2 HE
 generalize B (PCode.putUint a0_1.toNat) = t172 at A20 z3 HE
 generalize B (PCode.putField (L a0_3)) = t176 at P4 z4 HE
 have c19b2 : (9223372036854775807 < t170.size + t171.size) = False := eq_false (by omega)
 have c21b2 : (9223372036854775807 < (t170 ++ t171).size + t172.size) = False := eq_false (by rw [ByteArray.size_append]; omega)
 have c21b6 : (9223372036854775807 < t170.size + t171.size + t172.size) = False := eq_false (by omega)
 have c22b2 : (9223372036854775807 < ((t170 ++ t171) ++ t172).size + (strOfNums y173).size) = False := eq_false (by rw [ByteArray.size_append, ByteArray.size_append]; omega)
 have c22b6 : (9223372036854775807 < t170.size + t171.size + t172.size + (strOfNums y173).size) = False := eq_false (by omega)
 have p0 : 0 ≤ x5_2 := by omega
 have p1 : x5_2 ≤ (a0_0.size : Int) := by omega
 have p0b : decide (0 ≤ x5_2) = true := decide_eq_true p0
 have p1b : decide (x5_2 ≤ (a0_0.size : Int)) = true := decide_eq_true p1
 have HP4 := Lib.hid P4
 have HZ := Lib.hid (show t170.size ≤ 10 ∧ t171.size ≤ 530 ∧ t172.size ≤ 10 ∧ t176.size ≤ 2060 ∧ (strOfNums y173).size = 1 from ⟨z1, z2, z3, z4, z5⟩)
 have HK := Lib.hid (show a0_0.size ≤ 520 ∧ xs.size ≤ 100000 from ⟨hk, hx⟩)
 clear P4 z1 z2 z3 z4 z5 hk hx hn hN hnk
 have n0_ := q04.mk (q08 BK169.out)
 have n1_ := q04.mk (q01 HB.out)
 clear BK169
 clear HB
 have BK169 := n0_
 have HB := n1_
 clear n0_ n1_
 refine start_ (n := 20) (S := fun w' => w'.cell? ⟨gb169, 0, none⟩ = some (.string a0_0) ∧ w'.cell? ⟨gb169, 1, none⟩ = some (.int .u64 a0_1) ∧ w'.cell? ⟨gb169, 2, none⟩ = some (.int .i64 a0_2) ∧ w'.cell? ⟨gb169, 3, none⟩ = some (.string a0_3)) (ds := []) #[false, false, false, false, false, false, false, false, false, false, false, false, false, false, false, false, false, false, false, false] (by kernel_rfl) rfl rfl ⟨(q03 BK169.out 0).trans rfl, (q03 BK169.out 1).trans rfl, (q03 BK169.out 2).trans rfl, (q03 BK169.out 3).trans rfl⟩ (fun hHeld => ?_); refine q16 tabW4 bitsW4 (fun HT_ HW_ => ?_)
 generalize wc.drew = w26 at BK169 HB hHeld ⊢
 refine pure_ (i := 0) (N := some 14) (v := ?_) (a' := ?_) #[true, false, false, false, false, false, false, false, false, false, false, false, false, false, false, false, false, false, false, false] rfl rfl (q0j HT_.out (by kernel_rfl)) (fun _ _ _ h => h) (Or.inl ⟨by rfl, ?_⟩) ?_ ?_
 rotate_left
 ·intro w'
  go_simp
  with_reducible rfl
 rotate_left
 ·simp only [Act.put, qa17, qb17, qc17, i64_w, i32_w]
  rfl
 refine pure_ (i := 1) (N := some 15) (v := ?_) (a' := ?_) #[true, true, false, false, false, false, false, false, false, false, false, false, false, false, false, false, false, false, false, false] rfl rfl (q0j HT_.out (by kernel_rfl)) (fun _ _ _ h => h) (Or.inl ⟨by rfl, ?_⟩) ?_ ?_
 rotate_left
 ·intro w'
  go_simp
  with_reducible rfl
 rotate_left
 ·simp only [Act.put, qa17, qb17, qc17, i64_w, i32_w]
  rfl
 refine pure_ (i := 3) (N := some 17) (v := ?_) (a' := ?_) #[true, true, false, true, false, false, false, false, false, false, false, false, false, false, false, false, false, false, false, false] rfl rfl (q0j HT_.out (by kernel_rfl)) (fun _ _ _ h => h) (Or.inl ⟨by rfl, ?_⟩) ?_ ?_
 rotate_left
 ·intro w'
  go_simp
  with_reducible rfl
 rotate_left
 ·simp only [Act.put, qa17, qb17, qc17, i64_w, i32_w]
  rfl
 refine pure_ (i := 5) (N := some 19) (v := ?_) (a' := ?_) #[true, true, false, true, false, true, false, false, false, false, false, false, false, false, false, false, false, false, false, false] rfl rfl (q0j HT_.out (by kernel_rfl)) (fun _ _ _ h => h) (Or.inl ⟨by rfl, ?_⟩) ?_ ?_
 rotate_left
 ·intro w'
  go_simp
  with_reducible rfl
 rotate_left
 ·simp only [Act.put, qa17, qb17, qc17, i64_w, i32_w]
  rfl
 refine pure_ (i := 9) (N := some 23) (v := ?_) (a' := ?_) #[true, true, false, true, false, true, false, false, false, true, false, false, false, false, false, false, false, false, false, false] rfl rfl (q0j HT_.out (by kernel_rfl)) (fun _ _ _ h => h) (Or.inl ⟨by rfl, ?_⟩) ?_ ?_
 rotate_left
 ·intro w'
  go_simp
  with_reducible rfl
 rotate_left
 ·simp only [Act.put, qa17, qb17, qc17, i64_w, i32_w]
  rfl
 refine pure_ (i := 13) (N := some 27) (v := ?_) (a' := ?_) #[true, true, false, true, false, true, false, false, false, true, false, false, false, true, false, false, false, false, false, false] rfl rfl (q0j HT_.out (by kernel_rfl)) (fun _ _ _ h => h) (Or.inl ⟨by rfl, ?_⟩) ?_ ?_
 rotate_left
 ·intro w'
  go_simp
  with_reducible rfl
 rotate_left
 ·simp only [Act.put, qa17, qb17, qc17, i64_w, i32_w]
  rfl
 refine take_ (i := 4) (N := some 18) (v := ?_) (a' := ?_) #[true, true, false, true, true, true, false, false, false, true, false, false, false, true, false, false, false, false, false, false] rfl rfl (q0w HT_.out HW_.out (by kernel_rfl)) (fun _ _ _ h => h) (Or.inl ⟨by rfl, ?_⟩) hHeld ?_ ?_
 rotate_left
 ·rintro w' ⟨s0, s1, s2, s3⟩
  go_simp
  with_reducible rfl
 rotate_left
 ·simp only [Act.put, qa17, qb17, qc17, i64_w, i32_w]
  rfl
 refine pure_ (i := 6) (N := some 20) (v := ?_) (a' := ?_) #[true, true, false, true, true, true, true, false, false, true, false, false, false, true, false, false, false, false, false, false] rfl rfl (q0j HT_.out (by kernel_rfl)) (fun _ _ _ h => h) (Or.inl ⟨by rfl, ?_⟩) ?_ ?_
 rotate_left
 ·intro w'
  go_simp
  with_reducible rfl
 rotate_left
 ·simp only [Act.put, qa17, qb17, qc17, i64_w, i32_w]
  rfl
 refine take_ (i := 10) (N := some 24) (v := ?_) (a' := ?_) #[true, true, false, true, true, true, true, false, false, true, true, false, false, true, false, false, false, false, false, false] rfl rfl (q0w HT_.out HW_.out (by kernel_rfl)) (fun _ _ _ h => h) (Or.inl ⟨by rfl, ?_⟩) hHeld ?_ ?_
 rotate_left
 ·rintro w' ⟨s0, s1, s2, s3⟩
  go_simp
  with_reducible rfl
 rotate_left
 ·simp only [Act.put, qa17, qb17, qc17, i64_w, i32_w]
  rfl
 refine take_ (i := 14) (N := some 28) (v := ?_) (a' := ?_) #[true, true, false, true, true, true, true, false, false, true, true, false, false, true, true, false, false, false, false, false] rfl rfl (q0w HT_.out HW_.out (by kernel_rfl)) (fun _ _ _ h => h) (Or.inl ⟨by rfl, ?_⟩) hHeld ?_ ?_
 rotate_left
 ·rintro w' ⟨s0, s1, s2, s3⟩
  go_simp
  with_reducible rfl
 rotate_left
 ·simp only [Act.put, qa17, qb17, qc17, i64_w, i32_w]
  rfl
 refine pure_ (i := 15) (N := some 29) (v := ?_) (a' := ?_) #[true, true, false, true, true, true, true, false, false, true, true, false, false, true, true, true, false, false, false, false] rfl rfl (q0j HT_.out (by kernel_rfl)) (fun _ _ _ h => h) (Or.inl ⟨by rfl, ?_⟩) ?_ ?_
 rotate_left
 ·intro w'
  go_simp
  with_reducible rfl
 rotate_left
 ·simp only [Act.put, qa17, qb17, qc17, i64_w, i32_w]
  rfl
 refine join_ (σ := Value) 2 #[true, true, true, true, true, true, true, true, true, true, true, true, true, true, true, true, true, true, false, false] (fun s_ => [(16, .string t170), (21, .string t171), (25, .string t172), (30, s_), (31, .string (strOfNums y173)), (22, .string (t170 ++ t171)), (26, .string ((t170 ++ t171) ++ t172))]) (fun s_ w' => (w'.cell? ⟨gb169, 0, none⟩ = some (.string a0_0) ∧ w'.cell? ⟨gb169, 1, none⟩ = some (.int .u64 a0_1) ∧ w'.cell? ⟨gb169, 2, none⟩ = some (.int .i64 a0_2) ∧ w'.cell? ⟨gb169, 3, none⟩ = some (.string a0_3)) ∧ (Kd.R (Kd.int .u8) 5 w' w.heap.size (fun _ => True) s_ y173) ∧ (w'.heap[gb169]? = some (.cells #[.string a0_0, .int .u64 a0_1, .int .i64 a0_2, .string a0_3] 28 (0, 0))) ∧ (Below w.heap.size w w')) ?_ ?_
 rotate_left
 ·intro hJ2_7_11_16_17
  refine join_ (σ := Value) 3 #[true, true, true, true, true, true, true, true, true, true, true, true, true, true, true, true, true, false, false, false] (fun s_ => [(16, .string t170), (21, .string t171), (25, .string t172), (30, s_), (22, .string (t170 ++ t171)), (26, .string ((t170 ++ t171) ++ t172))]) (fun s_ w' => (w'.cell? ⟨gb169, 0, none⟩ = some (.string a0_0) ∧ w'.cell? ⟨gb169, 1, none⟩ = some (.int .u64 a0_1) ∧ w'.cell? ⟨gb169, 2, none⟩ = some (.int .i64 a0_2) ∧ w'.cell? ⟨gb169, 3, none⟩ = some (.string a0_3)) ∧ (Kd.R (Kd.int .u8) 5 w' w.heap.size (fun _ => True) s_ y173) ∧ (w'.heap[gb169]? = some (.cells #[.string a0_0, .int .u64 a0_1, .int .i64 a0_2, .string a0_3] 28 (0, 0))) ∧ (Below w.heap.size w w')) ?_ ?_
  rotate_left
  ·intro hJ2_7_11_16
   refine join_ (σ := Value) 4 #[true, true, true, true, true, true, true, true, true, true, true, false, false, true, true, true, true, true, false, false] (fun s_ => [(16, .string t170), (21, .string t171), (30, s_), (31, .string (strOfNums y173)), (22, .string (t170 ++ t171))]) (fun s_ w' => (w'.cell? ⟨gb169, 0, none⟩ = some (.string a0_0) ∧ w'.cell? ⟨gb169, 1, none⟩ = some (.int .u64 a0_1) ∧ w'.cell? ⟨gb169, 2, none⟩ = some (.int .i64 a0_2) ∧ w'.cell? ⟨gb169, 3, none⟩ = some (.string a0_3)) ∧ (Kd.R (Kd.int .u8) 5 w' w.heap.size (fun _ => True) s_ y173) ∧ (w'.heap[gb169]? = some (.cells #[.string a0_0, .int .u64 a0_1, .int .i64 a0_2, .string a0_3] 28 (0, 0))) ∧ (Below w.heap.size w w')) ?_ ?_
   rotate_left
   ·intro hJ2_7_16_17
    refine join_ (σ := Unit) 4 #[true, true, true, true, true, true, true, true, true, true, true, true, true, true, true, true, false, false, false, false] (fun s_ => [(16, .string t170), (21, .string t171), (25, .string t172), (22, .string (t170 ++ t171)), (26, .string ((t170 ++ t171) ++ t172))]) (fun s_ w' => (w'.cell? ⟨gb169, 0, none⟩ = some (.string a0_0) ∧ w'.cell? ⟨gb169, 1, none⟩ = some (.int .u64 a0_1) ∧ w'.cell? ⟨gb169, 2, none⟩ = some (.int .i64 a0_2) ∧ w'.cell? ⟨gb169, 3, none⟩ = some (.string a0_3)) ∧ (w'.heap[gb169]? = some (.cells #[.string a0_0, .int .u64 a0_1, .int .i64 a0_2, .string a0_3] 28 (0, 0))) ∧ (Below w.heap.size w w')) ?_ ?_
    rotate_left
    ·intro hJ2_7_11
     refine join_ (σ := Value) 5 #[true, true, true, true, true, true, true, true, true, true, true, false, false, true, true, true, true, false, false, false] (fun s_ => [(16, .string t170), (21, .string t171), (30, s_), (22, .string (t170 ++ t171))]) (fun s_ w' => (w'.cell? ⟨gb169, 0, none⟩ = some (.string a0_0) ∧ w'.cell? ⟨gb169, 1, none⟩ = some (.int .u64 a0_1) ∧ w'.cell? ⟨gb169, 2, none⟩ = some (.int .i64 a0_2) ∧ w'.cell? ⟨gb169, 3, none⟩ = some (.string a0_3)) ∧ (Kd.R (Kd.int .u8) 5 w' w.heap.size (fun _ => True) s_ y173) ∧ (w'.heap[gb169]? = some (.cells #[.string a0_0, .int .u64 a0_1, .int .i64 a0_2, .string a0_3] 28 (0, 0))) ∧ (Below w.heap.size w w')) ?_ ?_
     rotate_left
     ·intro hJ2_7_16
      refine join_ (σ := Value) 6 #[true, true, true, true, true, true, true, false, false, true, true, false, false, true, true, true, true, true, false, false] (fun s_ => [(16, .string t170), (30, s_), (31, .string (strOfNums y173))]) (fun s_ w' => (w'.cell? ⟨gb169, 0, none⟩ = some (.string a0_0) ∧ w'.cell? ⟨gb169, 1, none⟩ = some (.int .u64 a0_1) ∧ w'.cell? ⟨gb169, 2, none⟩ = some (.int .i64 a0_2) ∧ w'.cell? ⟨gb169, 3, none⟩ = some (.string a0_3)) ∧ (Kd.R (Kd.int .u8) 5 w' w.heap.size (fun _ => True) s_ y173) ∧ (w'.heap[gb169]? = some (.cells #[.string a0_0, .int .u64 a0_1, .int .i64 a0_2, .string a0_3] 28 (0, 0))) ∧ (Below w.heap.size w w')) ?_ ?_
      rotate_left
      ·intro hJ2_16_17
       refine join_ (σ := Unit) 6 #[true, true, true, true, true, true, true, true, true, true, true, false, false, true, true, true, false, false, false, false] (fun s_ => [(16, .string t170), (21, .string t171), (22, .string (t170 ++ t171))]) (fun s_ w' => (w'.cell? ⟨gb169, 0, none⟩ = some (.string a0_0) ∧ w'.cell? ⟨gb169, 1, none⟩ = some (.int .u64 a0_1) ∧ w'.cell? ⟨gb169, 2, none⟩ = some (.int .i64 a0_2) ∧ w'.cell? ⟨gb169, 3, none⟩ = some (.string a0_3)) ∧ (w'.heap[gb169]? = some (.cells #[.string a0_0, .int .u64 a0_1, .int .i64 a0_2, .string a0_3] 28 (0, 0))) ∧ (Below w.heap.size w w')) ?_ ?_
       rotate_left
       ·intro hJ2_7
        refine join_ (σ := Value) 7 #[true, true, true, true, true, true, true, false, false, true, true, false, false, true, true, true, true, false, false, false] (fun s_ => [(16, .string t170), (30, s_)]) (fun s_ w' => (w'.cell? ⟨gb169, 0, none⟩ = some (.string a0_0) ∧ w'.cell? ⟨gb169, 1, none⟩ = some (.int .u64 a0_1) ∧ w'.cell? ⟨gb169, 2, none⟩ = some (.int .i64 a0_2) ∧ w'.cell? ⟨gb169, 3, none⟩ = some (.string a0_3)) ∧ (Kd.R (Kd.int .u8) 5 w' w.heap.size (fun _ => True) s_ y173) ∧ (w'.heap[gb169]? = some (.cells #[.string a0_0, .int .u64 a0_1, .int .i64 a0_2, .string a0_3] 28 (0, 0))) ∧ (Below w.heap.size w w')) ?_ ?_
        rotate_left
        ·intro hJ2_16
         refine join_ (σ := Value) 7 #[true, true, false, true, true, true, true, false, false, true, true, false, false, true, true, true, true, true, false, false] (fun s_ => [(30, s_), (31, .string (strOfNums y173))]) (fun s_ w' => (w'.cell? ⟨gb169, 0, none⟩ = some (.string a0_0) ∧ w'.cell? ⟨gb169, 1, none⟩ = some (.int .u64 a0_1) ∧ w'.cell? ⟨gb169, 2, none⟩ = some (.int .i64 a0_2) ∧ w'.cell? ⟨gb169, 3, none⟩ = some (.string a0_3)) ∧ (Kd.R (Kd.int .u8) 5 w' w.heap.size (fun _ => True) s_ y173) ∧ (w'.heap[gb169]? = some (.cells #[.string a0_0, .int .u64 a0_1, .int .i64 a0_2, .string a0_3] 28 (0, 0))) ∧ (Below w.heap.size w w')) ?_ ?_
         rotate_left
         ·intro hJ16_17
          refine join_ (σ := Unit) 8 #[true, true, true, true, true, true, true, false, false, true, true, false, false, true, true, true, false, false, false, false] (fun s_ => [(16, .string t170)]) (fun s_ w' => (w'.cell? ⟨gb169, 0, none⟩ = some (.string a0_0) ∧ w'.cell? ⟨gb169, 1, none⟩ = some (.int .u64 a0_1) ∧ w'.cell? ⟨gb169, 2, none⟩ = some (.int .i64 a0_2) ∧ w'.cell? ⟨gb169, 3, none⟩ = some (.string a0_3)) ∧ (w'.heap[gb169]? = some (.cells #[.string a0_0, .int .u64 a0_1, .int .i64 a0_2, .string a0_3] 28 (0, 0))) ∧ (Below w.heap.size w w')) ?_ ?_
          rotate_left
          ·intro hJ2
           refine join_ (σ := Value) 8 #[true, true, false, true, true, true, true, false, false, true, true, false, false, true, true, true, true, false, false, false] (fun s_ => [(30, s_)]) (fun s_ w' => (w'.cell? ⟨gb169, 0, none⟩ = some (.string a0_0) ∧ w'.cell? ⟨gb169, 1, none⟩ = some (.int .u64 a0_1) ∧ w'.cell? ⟨gb169, 2, none⟩ = some (.int .i64 a0_2) ∧ w'.cell? ⟨gb169, 3, none⟩ = some (.string a0_3)) ∧ (Kd.R (Kd.int .u8) 5 w' w.heap.size (fun _ => True) s_ y173) ∧ (w'.heap[gb169]? = some (.cells #[.string a0_0, .int .u64 a0_1, .int .i64 a0_2, .string a0_3] 28 (0, 0))) ∧ (Below w.heap.size w w')) ?_ ?_
           rotate_left
           ·intro hJ16
            refine two_ (i := 2) (j := 16) (Ni := some 16) (Nj := some 30) #[true, true, true, true, true, true, true, false, false, true, true, false, false, true, true, true, false, false, false, false] #[true, true, false, true, true, true, true, false, false, true, true, false, false, true, true, true, true, false, false, false] rfl rfl rfl rfl (two_of HT_.out (by kernel_rfl)) (by decide) (by decide) (fun K hK => ?_) (fun K hK => ?_)
            ·skip
             refine goes_ Try.func36 (by kernel_rfl) rfl #[.int .u64 (IntKind.u64.wrap (x5_2))] (by rfl) rfl rfl (by (try simp only [List.map_toArray, List.map_cons, List.map_nil]); first | done | rfl | (simp only [List.length_drop, List.length_take]; rfl)) ?_
             with_reducible refine (code_PutUint.calls k15 (IntKind.u64.wrap (x5_2)) t170 _ A15.out).mono ?_
             rintro e w27 ⟨rfl, hb⟩
             refine ⟨_, rfl, ?_⟩
             have n0_ := q04.mk (q0f (g := gb169) (o := .cells #[.string a0_0, .int .u64 a0_1, .int .i64 a0_2, .string a0_3] 28 (0, 0)) (by (with_reducible repeat (first | refine q07 ?_ _ | refine q08 ?_ | refine q06 ?_ _)); exact BK169.out) hb)
             have n1_ := q04.mk (q0a (by repeat (first | (with_reducible first | exact HB.out | apply q02 | apply q00 | apply q01 | refine q09 ?_ GE169.out) | exact HB.out)) hb)
             clear BK169
             clear HB
             have BK169 := n0_
             have HB := n1_
             clear n0_ n1_
             (try clear hb)
             (try clear hb2)
             (try clear hk)
             (try clear hi)
             refine hK.out _ _ ⟨(q03 BK169.out 0).trans rfl, (q03 BK169.out 1).trans rfl, (q03 BK169.out 2).trans rfl, (q03 BK169.out 3).trans rfl⟩ (fun hHeld => ?_)
             clear hK K
             refine norm_ (a' := ?_) ?_ ?_
             rotate_left
             ·show Act.put _ (some 16) _ = _
              simp only [Act.put, qa17, qb17, qc17, i64_w, i32_w]
              rfl
             exact norm_ (by first | (simp only [q0m, Act.put, qa17, qb17, qc17]; done) | (simp only [q0m, Act.put, qa17, qb17, qc17]; rfl)) (hJ2 () _ ⟨hHeld, (by (with_reducible repeat (first | refine q07 ?_ _ | refine q08 ?_ | refine q06 ?_ _)); exact BK169.out), (by repeat (first | (with_reducible first | exact HB.out | apply q02 | apply q00 | apply q01 | refine q09 ?_ GE169.out) | exact HB.out))⟩)
            ·skip
             refine Kd.R_lit_step (Kd.int .u8) _ 5 ?hg (N := 30) ?hd (xs := ([(a0_2) % 256] : List Int)) (inner := [.int .u8 ((a0_2) % 256)]) (ok := fun _ => True) (okp := fun _ => True) ?hr ?hp (fun _ hk => hk) trivial (Below.refl _ _) (Nat.le_refl _) (by simp) ?_; (case hd => rfl); (case hg => rfl); (case hr => first | (go_simp; done) | (go_simp; rfl)); (case hp => exact (Reps.one (show Kd.M (Kd.int .u8) _ _ _ ((a0_2) % 256) [.int .u8 ((a0_2) % 256)] from rfl) (Reps.none _ _)))
             intro v174 w27 ho28 hb hg_ hnew_
             clear hg_ hnew_
             (first | rw [← Ny173.out] at ho28 | (simp only [Int.reduceToNat] at ho28; rw [← Ny173.out] at ho28))
             have n0_ := q04.mk (Kd.R_lower ho28 (q0e (by repeat (first | (with_reducible first | exact HB.out | apply q02 | apply q00 | apply q01 | refine q09 ?_ GE169.out) | exact HB.out))))
             have n1_ := q04.mk (q0f (g := gb169) (o := .cells #[.string a0_0, .int .u64 a0_1, .int .i64 a0_2, .string a0_3] 28 (0, 0)) (by (with_reducible repeat (first | refine q07 ?_ _ | refine q08 ?_ | refine q06 ?_ _)); exact BK169.out) hb)
             have n2_ := q04.mk (q0a (by repeat (first | (with_reducible first | exact HB.out | apply q02 | apply q00 | apply q01 | refine q09 ?_ GE169.out) | exact HB.out)) hb)
             clear BK169
             clear HB
             have HO175 := n0_
             have BK169 := n1_
             have HB := n2_
             clear n0_ n1_ n2_
             clear hb ho28
             refine hK.out _ _ ⟨(q03 BK169.out 0).trans rfl, (q03 BK169.out 1).trans rfl, (q03 BK169.out 2).trans rfl, (q03 BK169.out 3).trans rfl⟩ (fun hHeld => ?_)
             clear hK K
             refine norm_ (a' := ?_) ?_ ?_
             rotate_left
             ·show Act.put _ (some 30) _ = _
              simp only [Act.put, qa17, qb17, qc17, i64_w, i32_w]
              rfl
             exact norm_ (by first | (simp only [q0m, Act.put, qa17, qb17, qc17]; done) | (simp only [q0m, Act.put, qa17, qb17, qc17]; rfl)) (hJ16 (v174) _ ⟨hHeld, (by (with_reducible repeat (first | apply Kd.R_alloc | apply Kd.R_drewN | apply Kd.R_drew)); exact HO175.out), (by (with_reducible repeat (first | refine q07 ?_ _ | refine q08 ?_ | refine q06 ?_ _)); exact BK169.out), (by repeat (first | (with_reducible first | exact HB.out | apply q02 | apply q00 | apply q01 | refine q09 ?_ GE169.out) | exact HB.out))⟩)
           ·skip
            rintro v174 w29 ⟨hS_, h0_, h1_, h2_⟩
            have n0_ : q04 (Kd.R (Kd.int .u8) 5 w29 w.heap.size (fun _ => True) v174 y173) := ⟨h0_⟩
            have n1_ : q04 (w29.heap[gb169]? = some (.cells #[.string a0_0, .int .u64 a0_1, .int .i64 a0_2, .string a0_3] 28 (0, 0))) := ⟨h1_⟩
            have n2_ : q04 (Below w.heap.size w w29) := ⟨h2_⟩
            clear BK169
            clear HB
            clear h0_ h1_ h2_
            have HO175 := n0_
            have BK169 := n1_
            have HB := n2_
            clear n0_ n1_ n2_
            have hHeld : w29.cell? ⟨gb169, 0, none⟩ = some (.string a0_0) ∧ w29.cell? ⟨gb169, 1, none⟩ = some (.int .u64 a0_1) ∧ w29.cell? ⟨gb169, 2, none⟩ = some (.int .i64 a0_2) ∧ w29.cell? ⟨gb169, 3, none⟩ = some (.string a0_3) := hS_
            refine norm_ (a' := ?_) ?_ ?_
            rotate_left
            ·simp only [q0m, Act.put, qa17, qb17, qc17]
             rfl
            refine two_ (i := 2) (j := 17) (Ni := some 16) (Nj := some 31) #[true, true, true, true, true, true, true, false, false, true, true, false, false, true, true, true, true, false, false, false] #[true, true, false, true, true, true, true, false, false, true, true, false, false, true, true, true, true, true, false, false] rfl rfl rfl rfl (two_of HT_.out (by kernel_rfl)) (by decide) (by decide) (fun K hK => ?_) (fun K hK => ?_)
            ·skip
             refine goes_ Try.func36 (by kernel_rfl) rfl #[.int .u64 (IntKind.u64.wrap (x5_2))] (by rfl) rfl rfl (by (try simp only [List.map_toArray, List.map_cons, List.map_nil]); first | done | rfl | (simp only [List.length_drop, List.length_take]; rfl)) ?_
             with_reducible refine (code_PutUint.calls k15 (IntKind.u64.wrap (x5_2)) t170 _ A15.out).mono ?_
             rintro e w30 ⟨rfl, hb⟩
             refine ⟨_, rfl, ?_⟩
             have n0_ := q04.mk (Kd.R_below (by (with_reducible repeat (first | apply Kd.R_alloc | apply Kd.R_drewN | apply Kd.R_drew)); exact HO175.out) hb)
             have n1_ := q04.mk (q0f (g := gb169) (o := .cells #[.string a0_0, .int .u64 a0_1, .int .i64 a0_2, .string a0_3] 28 (0, 0)) (by (with_reducible repeat (first | refine q07 ?_ _ | refine q08 ?_ | refine q06 ?_ _)); exact BK169.out) hb)
             have n2_ := q04.mk (q0a (by repeat (first | (with_reducible first | exact HB.out | apply q02 | apply q00 | apply q01 | refine q09 ?_ GE169.out) | exact HB.out)) hb)
             clear HO175
             clear BK169
             clear HB
             have HO175 := n0_
             have BK169 := n1_
             have HB := n2_
             clear n0_ n1_ n2_
             (try clear hb)
             (try clear hb2)
             (try clear hk)
             (try clear hi)
             refine hK.out _ _ ⟨(q03 BK169.out 0).trans rfl, (q03 BK169.out 1).trans rfl, (q03 BK169.out 2).trans rfl, (q03 BK169.out 3).trans rfl⟩ (fun hHeld => ?_)
             clear hK K
             refine norm_ (a' := ?_) ?_ ?_
             rotate_left
             ·show Act.put _ (some 16) _ = _
              simp only [Act.put, qa17, qb17, qc17, i64_w, i32_w]
              rfl
             exact norm_ (by first | (simp only [q0m, Act.put, qa17, qb17, qc17]; done) | (simp only [q0m, Act.put, qa17, qb17, qc17]; rfl)) (hJ2_16 (v174) _ ⟨hHeld, (by (with_reducible repeat (first | apply Kd.R_alloc | apply Kd.R_drewN | apply Kd.R_drew)); exact HO175.out), (by (with_reducible repeat (first | refine q07 ?_ _ | refine q08 ?_ | refine q06 ?_ _)); exact BK169.out), (by repeat (first | (with_reducible first | exact HB.out | apply q02 | apply q00 | apply q01 | refine q09 ?_ GE169.out) | exact HB.out))⟩)
            ·skip
             have hcv30 := q14 (P := Try.prog) Try.underlying55 Try.underlying5 Try.underlying9 (Kd.own_of_R HO175.out)
             refine value_ (w1 := ?_) (v := ?_) (by rfl) rfl ?_ ?_
             rotate_left 2
             ·go_simp
              constructor
              ·rfl
              ·rfl
             clear hcv30
             refine hK.out _ _ ⟨(q03 BK169.out 0).trans rfl, (q03 BK169.out 1).trans rfl, (q03 BK169.out 2).trans rfl, (q03 BK169.out 3).trans rfl⟩ (fun hHeld => ?_)
             clear hK K
             refine norm_ (a' := ?_) ?_ ?_
             rotate_left
             ·show Act.put _ (some 31) _ = _
              simp only [Act.put, qa17, qb17, qc17, i64_w, i32_w]
              rfl
             exact norm_ (by first | (simp only [q0m, Act.put, qa17, qb17, qc17]; done) | (simp only [q0m, Act.put, qa17, qb17, qc17]; rfl)) (hJ16_17 (v174) _ ⟨hHeld, (by (with_reducible repeat (first | apply Kd.R_alloc | apply Kd.R_drewN | apply Kd.R_drew)); exact HO175.out), (by (with_reducible repeat (first | refine q07 ?_ _ | refine q08 ?_ | refine q06 ?_ _)); exact BK169.out), (by repeat (first | (with_reducible first | exact HB.out | apply q02 | apply q00 | apply q01 | refine q09 ?_ GE169.out) | exact HB.out))⟩)
          ·skip
           rintro _ w28 ⟨hS_, h0_, h1_⟩
           have n0_ : q04 (w28.heap[gb169]? = some (.cells #[.string a0_0, .int .u64 a0_1, .int .i64 a0_2, .string a0_3] 28 (0, 0))) := ⟨h0_⟩
           have n1_ : q04 (Below w.heap.size w w28) := ⟨h1_⟩
           clear BK169
           clear HB
           clear h0_ h1_
           have BK169 := n0_
           have HB := n1_
           clear n0_ n1_
           have hHeld : w28.cell? ⟨gb169, 0, none⟩ = some (.string a0_0) ∧ w28.cell? ⟨gb169, 1, none⟩ = some (.int .u64 a0_1) ∧ w28.cell? ⟨gb169, 2, none⟩ = some (.int .i64 a0_2) ∧ w28.cell? ⟨gb169, 3, none⟩ = some (.string a0_3) := hS_
           refine norm_ (a' := ?_) ?_ ?_
           rotate_left
           ·simp only [q0m, Act.put, qa17, qb17, qc17]
            rfl
           refine two_ (i := 7) (j := 16) (Ni := some 21) (Nj := some 30) #[true, true, true, true, true, true, true, true, false, true, true, false, false, true, true, true, false, false, false, false] #[true, true, true, true, true, true, true, false, false, true, true, false, false, true, true, true, true, false, false, false] rfl rfl rfl rfl (two_of HT_.out (by kernel_rfl)) (by decide) (by decide) (fun K hK => ?_) (fun K hK => ?_)
           ·skip
            refine goes_ Try.func35 (by kernel_rfl) rfl #[.string (a0_0.extract (x5_2 : Int).toNat a0_0.size)] (by rfl) rfl rfl (by (try simp only [List.map_toArray, List.map_cons, List.map_nil]); first | done | rfl | (simp only [List.length_drop, List.length_take]; rfl)) ?_
            with_reducible refine (code_PutField.calls k18 (a0_0.extract (x5_2 : Int).toNat a0_0.size) t171 _ A18.out).mono ?_
            rintro e w29 ⟨rfl, hb⟩
            refine ⟨_, rfl, ?_⟩
            have n0_ := q04.mk (q0f (g := gb169) (o := .cells #[.string a0_0, .int .u64 a0_1, .int .i64 a0_2, .string a0_3] 28 (0, 0)) (by (with_reducible repeat (first | refine q07 ?_ _ | refine q08 ?_ | refine q06 ?_ _)); exact BK169.out) hb)
            have n1_ := q04.mk (q0a (by repeat (first | (with_reducible first | exact HB.out | apply q02 | apply q00 | apply q01 | refine q09 ?_ GE169.out) | exact HB.out)) hb)
            clear BK169
            clear HB
            have BK169 := n0_
            have HB := n1_
            clear n0_ n1_
            (try clear hb)
            (try clear hb2)
            (try clear hk)
            (try clear hi)
            refine hK.out _ _ ⟨(q03 BK169.out 0).trans rfl, (q03 BK169.out 1).trans rfl, (q03 BK169.out 2).trans rfl, (q03 BK169.out 3).trans rfl⟩ (fun hHeld => ?_)
            clear hK K
            refine norm_ (a' := ?_) ?_ ?_
            rotate_left
            ·show Act.put _ (some 21) _ = _
             simp only [Act.put, qa17, qb17, qc17, i64_w, i32_w]
             rfl
            refine pure_ (i := 8) (N := some 22) (v := ?_) (a' := ?_) #[true, true, true, true, true, true, true, true, true, true, true, false, false, true, true, true, false, false, false, false] rfl rfl (q0j HT_.out (by kernel_rfl)) (fun _ _ _ h => h) (Or.inl ⟨by rfl, ?_⟩) ?_ ?_
            rotate_left
            ·intro w'
             go_simp
             with_reducible rfl
            rotate_left
            ·simp only [Act.put, qa17, qb17, qc17, i64_w, i32_w]
             rfl
            exact norm_ (by first | (simp only [q0m, Act.put, qa17, qb17, qc17]; done) | (simp only [q0m, Act.put, qa17, qb17, qc17]; rfl)) (hJ2_7 () _ ⟨hHeld, (by (with_reducible repeat (first | refine q07 ?_ _ | refine q08 ?_ | refine q06 ?_ _)); exact BK169.out), (by repeat (first | (with_reducible first | exact HB.out | apply q02 | apply q00 | apply q01 | refine q09 ?_ GE169.out) | exact HB.out))⟩)
           ·skip
            refine Kd.R_lit_step (Kd.int .u8) _ 5 ?hg (N := 30) ?hd (xs := ([(a0_2) % 256] : List Int)) (inner := [.int .u8 ((a0_2) % 256)]) (ok := fun _ => True) (okp := fun _ => True) ?hr ?hp (fun _ hk => hk) trivial (Below.refl _ _) (Nat.le_refl _) (by simp) ?_; (case hd => rfl); (case hg => rfl); (case hr => first | (go_simp; done) | (go_simp; rfl)); (case hp => exact (Reps.one (show Kd.M (Kd.int .u8) _ _ _ ((a0_2) % 256) [.int .u8 ((a0_2) % 256)] from rfl) (Reps.none _ _)))
            intro v174 w29 ho30 hb hg_ hnew_
            clear hg_ hnew_
            (first | rw [← Ny173.out] at ho30 | (simp only [Int.reduceToNat] at ho30; rw [← Ny173.out] at ho30))
            have n0_ := q04.mk (Kd.R_lower ho30 (q0e (by repeat (first | (with_reducible first | exact HB.out | apply q02 | apply q00 | apply q01 | refine q09 ?_ GE169.out) | exact HB.out))))
            have n1_ := q04.mk (q0f (g := gb169) (o := .cells #[.string a0_0, .int .u64 a0_1, .int .i64 a0_2, .string a0_3] 28 (0, 0)) (by (with_reducible repeat (first | refine q07 ?_ _ | refine q08 ?_ | refine q06 ?_ _)); exact BK169.out) hb)
            have n2_ := q04.mk (q0a (by repeat (first | (with_reducible first | exact HB.out | apply q02 | apply q00 | apply q01 | refine q09 ?_ GE169.out) | exact HB.out)) hb)
            clear BK169
            clear HB
            have HO175 := n0_
            have BK169 := n1_
            have HB := n2_
            clear n0_ n1_ n2_
            clear hb ho30
            refine hK.out _ _ ⟨(q03 BK169.out 0).trans rfl, (q03 BK169.out 1).trans rfl, (q03 BK169.out 2).trans rfl, (q03 BK169.out 3).trans rfl⟩ (fun hHeld => ?_)
            clear hK K
            refine norm_ (a' := ?_) ?_ ?_
            rotate_left
            ·show Act.put _ (some 30) _ = _
             simp only [Act.put, qa17, qb17, qc17, i64_w, i32_w]
             rfl
            exact norm_ (by first | (simp only [q0m, Act.put, qa17, qb17, qc17]; done) | (simp only [q0m, Act.put, qa17, qb17, qc17]; rfl)) (hJ2_16 (v174) _ ⟨hHeld, (by (with_reducible repeat (first | apply Kd.R_alloc | apply Kd.R_drewN | apply Kd.R_drew)); exact HO175.out), (by (with_reducible repeat (first | refine q07 ?_ _ | refine q08 ?_ | refine q06 ?_ _)); exact BK169.out), (by repeat (first | (with_reducible first | exact HB.out | apply q02 | apply q00 | apply q01 | refine q09 ?_ GE169.out) | exact HB.out))⟩)
         ·skip
          rintro v174 w30 ⟨hS_, h0_, h1_, h2_⟩
          have n0_ : q04 (Kd.R (Kd.int .u8) 5 w30 w.heap.size (fun _ => True) v174 y173) := ⟨h0_⟩
          have n1_ : q04 (w30.heap[gb169]? = some (.cells #[.string a0_0, .int .u64 a0_1, .int .i64 a0_2, .string a0_3] 28 (0, 0))) := ⟨h1_⟩
          have n2_ : q04 (Below w.heap.size w w30) := ⟨h2_⟩
          clear BK169
          clear HB
          clear h0_ h1_ h2_
          have HO175 := n0_
          have BK169 := n1_
          have HB := n2_
          clear n0_ n1_ n2_
          have hHeld : w30.cell? ⟨gb169, 0, none⟩ = some (.string a0_0) ∧ w30.cell? ⟨gb169, 1, none⟩ = some (.int .u64 a0_1) ∧ w30.cell? ⟨gb169, 2, none⟩ = some (.int .i64 a0_2) ∧ w30.cell? ⟨gb169, 3, none⟩ = some (.string a0_3) := hS_
          refine norm_ (a' := ?_) ?_ ?_
          rotate_left
          ·simp only [q0m, Act.put, qa17, qb17, qc17]
           rfl
          refine one_ (i := 2) (N := some 16) #[true, true, true, true, true, true, true, false, false, true, true, false, false, true, true, true, true, true, false, false] rfl rfl (q13 HT_.out (by kernel_rfl)) (by decide) (fun K hK => ?_)
          refine goes_ Try.func36 (by kernel_rfl) rfl #[.int .u64 (IntKind.u64.wrap (x5_2))] (by rfl) rfl rfl (by (try simp only [List.map_toArray, List.map_cons, List.map_nil]); first | done | rfl | (simp only [List.length_drop, List.length_take]; rfl)) ?_
          with_reducible refine (code_PutUint.calls k15 (IntKind.u64.wrap (x5_2)) t170 _ A15.out).mono ?_
          rintro e w31 ⟨rfl, hb⟩
          refine ⟨_, rfl, ?_⟩
          have n0_ := q04.mk (Kd.R_below (by (with_reducible repeat (first | apply Kd.R_alloc | apply Kd.R_drewN | apply Kd.R_drew)); exact HO175.out) hb)
          have n1_ := q04.mk (q0f (g := gb169) (o := .cells #[.string a0_0, .int .u64 a0_1, .int .i64 a0_2, .string a0_3] 28 (0, 0)) (by (with_reducible repeat (first | refine q07 ?_ _ | refine q08 ?_ | refine q06 ?_ _)); exact BK169.out) hb)
          have n2_ := q04.mk (q0a (by repeat (first | (with_reducible first | exact HB.out | apply q02 | apply q00 | apply q01 | refine q09 ?_ GE169.out) | exact HB.out)) hb)
          clear HO175
          clear BK169
          clear HB
          have HO175 := n0_
          have BK169 := n1_
          have HB := n2_
          clear n0_ n1_ n2_
          (try clear hb)
          (try clear hb2)
          (try clear hk)
          (try clear hi)
          refine hK.out _ _ ⟨(q03 BK169.out 0).trans rfl, (q03 BK169.out 1).trans rfl, (q03 BK169.out 2).trans rfl, (q03 BK169.out 3).trans rfl⟩ (fun hHeld => ?_)
          clear hK K
          refine norm_ (a' := ?_) ?_ ?_
          rotate_left
          ·show Act.put _ (some 16) _ = _
           simp only [Act.put, qa17, qb17, qc17, i64_w, i32_w]
           rfl
          exact norm_ (by first | (simp only [q0m, Act.put, qa17, qb17, qc17]; done) | (simp only [q0m, Act.put, qa17, qb17, qc17]; rfl)) (hJ2_16_17 (v174) _ ⟨hHeld, (by (with_reducible repeat (first | apply Kd.R_alloc | apply Kd.R_drewN | apply Kd.R_drew)); exact HO175.out), (by (with_reducible repeat (first | refine q07 ?_ _ | refine q08 ?_ | refine q06 ?_ _)); exact BK169.out), (by repeat (first | (with_reducible first | exact HB.out | apply q02 | apply q00 | apply q01 | refine q09 ?_ GE169.out) | exact HB.out))⟩)
        ·skip
         rintro v174 w30 ⟨hS_, h0_, h1_, h2_⟩
         have n0_ : q04 (Kd.R (Kd.int .u8) 5 w30 w.heap.size (fun _ => True) v174 y173) := ⟨h0_⟩
         have n1_ : q04 (w30.heap[gb169]? = some (.cells #[.string a0_0, .int .u64 a0_1, .int .i64 a0_2, .string a0_3] 28 (0, 0))) := ⟨h1_⟩
         have n2_ : q04 (Below w.heap.size w w30) := ⟨h2_⟩
         clear BK169
         clear HB
         clear h0_ h1_ h2_
         have HO175 := n0_
         have BK169 := n1_
         have HB := n2_
         clear n0_ n1_ n2_
         have hHeld : w30.cell? ⟨gb169, 0, none⟩ = some (.string a0_0) ∧ w30.cell? ⟨gb169, 1, none⟩ = some (.int .u64 a0_1) ∧ w30.cell? ⟨gb169, 2, none⟩ = some (.int .i64 a0_2) ∧ w30.cell? ⟨gb169, 3, none⟩ = some (.string a0_3) := hS_
         refine norm_ (a' := ?_) ?_ ?_
         rotate_left
         ·simp only [q0m, Act.put, qa17, qb17, qc17]
          rfl
         refine two_ (i := 7) (j := 17) (Ni := some 21) (Nj := some 31) #[true, true, true, true, true, true, true, true, false, true, true, false, false, true, true, true, true, false, false, false] #[true, true, true, true, true, true, true, false, false, true, true, false, false, true, true, true, true, true, false, false] rfl rfl rfl rfl (two_of HT_.out (by kernel_rfl)) (by decide) (by decide) (fun K hK => ?_) (fun K hK => ?_)
         ·skip
          refine goes_ Try.func35 (by kernel_rfl) rfl #[.string (a0_0.extract (x5_2 : Int).toNat a0_0.size)] (by rfl) rfl rfl (by (try simp only [List.map_toArray, List.map_cons, List.map_nil]); first | done | rfl | (simp only [List.length_drop, List.length_take]; rfl)) ?_
          with_reducible refine (code_PutField.calls k18 (a0_0.extract (x5_2 : Int).toNat a0_0.size) t171 _ A18.out).mono ?_
          rintro e w31 ⟨rfl, hb⟩
          refine ⟨_, rfl, ?_⟩
          have n0_ := q04.mk (Kd.R_below (by (with_reducible repeat (first | apply Kd.R_alloc | apply Kd.R_drewN | apply Kd.R_drew)); exact HO175.out) hb)
          have n1_ := q04.mk (q0f (g := gb169) (o := .cells #[.string a0_0, .int .u64 a0_1, .int .i64 a0_2, .string a0_3] 28 (0, 0)) (by (with_reducible repeat (first | refine q07 ?_ _ | refine q08 ?_ | refine q06 ?_ _)); exact BK169.out) hb)
          have n2_ := q04.mk (q0a (by repeat (first | (with_reducible first | exact HB.out | apply q02 | apply q00 | apply q01 | refine q09 ?_ GE169.out) | exact HB.out)) hb)
          clear HO175
          clear BK169
          clear HB
          have HO175 := n0_
          have BK169 := n1_
          have HB := n2_
          clear n0_ n1_ n2_
          (try clear hb)
          (try clear hb2)
          (try clear hk)
          (try clear hi)
          refine hK.out _ _ ⟨(q03 BK169.out 0).trans rfl, (q03 BK169.out 1).trans rfl, (q03 BK169.out 2).trans rfl, (q03 BK169.out 3).trans rfl⟩ (fun hHeld => ?_)
          clear hK K
          refine norm_ (a' := ?_) ?_ ?_
          rotate_left
          ·show Act.put _ (some 21) _ = _
           simp only [Act.put, qa17, qb17, qc17, i64_w, i32_w]
           rfl
          refine pure_ (i := 8) (N := some 22) (v := ?_) (a' := ?_) #[true, true, true, true, true, true, true, true, true, true, true, false, false, true, true, true, true, false, false, false] rfl rfl (q0j HT_.out (by kernel_rfl)) (fun _ _ _ h => h) (Or.inl ⟨by rfl, ?_⟩) ?_ ?_
          rotate_left
          ·intro w'
           go_simp
           with_reducible rfl
          rotate_left
          ·simp only [Act.put, qa17, qb17, qc17, i64_w, i32_w]
           rfl
          exact norm_ (by first | (simp only [q0m, Act.put, qa17, qb17, qc17]; done) | (simp only [q0m, Act.put, qa17, qb17, qc17]; rfl)) (hJ2_7_16 (v174) _ ⟨hHeld, (by (with_reducible repeat (first | apply Kd.R_alloc | apply Kd.R_drewN | apply Kd.R_drew)); exact HO175.out), (by (with_reducible repeat (first | refine q07 ?_ _ | refine q08 ?_ | refine q06 ?_ _)); exact BK169.out), (by repeat (first | (with_reducible first | exact HB.out | apply q02 | apply q00 | apply q01 | refine q09 ?_ GE169.out) | exact HB.out))⟩)
         ·skip
          have hcv31 := q14 (P := Try.prog) Try.underlying55 Try.underlying5 Try.underlying9 (Kd.own_of_R HO175.out)
          refine value_ (w1 := ?_) (v := ?_) (by rfl) rfl ?_ ?_
          rotate_left 2
          ·go_simp
           constructor
           ·rfl
           ·rfl
          clear hcv31
          refine hK.out _ _ ⟨(q03 BK169.out 0).trans rfl, (q03 BK169.out 1).trans rfl, (q03 BK169.out 2).trans rfl, (q03 BK169.out 3).trans rfl⟩ (fun hHeld => ?_)
          clear hK K
          refine norm_ (a' := ?_) ?_ ?_
          rotate_left
          ·show Act.put _ (some 31) _ = _
           simp only [Act.put, qa17, qb17, qc17, i64_w, i32_w]
           rfl
          exact norm_ (by first | (simp only [q0m, Act.put, qa17, qb17, qc17]; done) | (simp only [q0m, Act.put, qa17, qb17, qc17]; rfl)) (hJ2_16_17 (v174) _ ⟨hHeld, (by (with_reducible repeat (first | apply Kd.R_alloc | apply Kd.R_drewN | apply Kd.R_drew)); exact HO175.out), (by (with_reducible repeat (first | refine q07 ?_ _ | refine q08 ?_ | refine q06 ?_ _)); exact BK169.out), (by repeat (first | (with_reducible first | exact HB.out | apply q02 | apply q00 | apply q01 | refine q09 ?_ GE169.out) | exact HB.out))⟩)
       ·skip
        rintro _ w29 ⟨hS_, h0_, h1_⟩
        have n0_ : q04 (w29.heap[gb169]? = some (.cells #[.string a0_0, .int .u64 a0_1, .int .i64 a0_2, .string a0_3] 28 (0, 0))) := ⟨h0_⟩
        have n1_ : q04 (Below w.heap.size w w29) := ⟨h1_⟩
        clear BK169
        clear HB
        clear h0_ h1_
        have BK169 := n0_
        have HB := n1_
        clear n0_ n1_
        have hHeld : w29.cell? ⟨gb169, 0, none⟩ = some (.string a0_0) ∧ w29.cell? ⟨gb169, 1, none⟩ = some (.int .u64 a0_1) ∧ w29.cell? ⟨gb169, 2, none⟩ = some (.int .i64 a0_2) ∧ w29.cell? ⟨gb169, 3, none⟩ = some (.string a0_3) := hS_
        refine norm_ (a' := ?_) ?_ ?_
        rotate_left
        ·simp only [q0m, Act.put, qa17, qb17, qc17]
         rfl
        refine two_ (i := 11) (j := 16) (Ni := some 25) (Nj := some 30) #[true, true, true, true, true, true, true, true, true, true, true, true, false, true, true, true, false, false, false, false] #[true, true, true, true, true, true, true, true, true, true, true, false, false, true, true, true, true, false, false, false] rfl rfl rfl rfl (two_of HT_.out (by kernel_rfl)) (by decide) (by decide) (fun K hK => ?_) (fun K hK => ?_)
        ·skip
         refine goes_ Try.func36 (by kernel_rfl) rfl #[.int .u64 a0_1] (by rfl) rfl rfl (by (try simp only [List.map_toArray, List.map_cons, List.map_nil]); first | done | rfl | (simp only [List.length_drop, List.length_take]; rfl)) ?_
         with_reducible refine (code_PutUint.calls k20 a0_1 t172 _ A20.out).mono ?_
         rintro e w30 ⟨rfl, hb⟩
         refine ⟨_, rfl, ?_⟩
         have n0_ := q04.mk (q0f (g := gb169) (o := .cells #[.string a0_0, .int .u64 a0_1, .int .i64 a0_2, .string a0_3] 28 (0, 0)) (by (with_reducible repeat (first | refine q07 ?_ _ | refine q08 ?_ | refine q06 ?_ _)); exact BK169.out) hb)
         have n1_ := q04.mk (q0a (by repeat (first | (with_reducible first | exact HB.out | apply q02 | apply q00 | apply q01 | refine q09 ?_ GE169.out) | exact HB.out)) hb)
         clear BK169
         clear HB
         have BK169 := n0_
         have HB := n1_
         clear n0_ n1_
         (try clear hb)
         (try clear hb2)
         (try clear hk)
         (try clear hi)
         refine hK.out _ _ ⟨(q03 BK169.out 0).trans rfl, (q03 BK169.out 1).trans rfl, (q03 BK169.out 2).trans rfl, (q03 BK169.out 3).trans rfl⟩ (fun hHeld => ?_)
         clear hK K
         refine norm_ (a' := ?_) ?_ ?_
         rotate_left
         ·show Act.put _ (some 25) _ = _
          simp only [Act.put, qa17, qb17, qc17, i64_w, i32_w]
          rfl
         refine pure_ (i := 12) (N := some 26) (v := ?_) (a' := ?_) #[true, true, true, true, true, true, true, true, true, true, true, true, true, true, true, true, false, false, false, false] rfl rfl (q0j HT_.out (by kernel_rfl)) (fun _ _ _ h => h) (Or.inl ⟨by rfl, ?_⟩) ?_ ?_
         rotate_left
         ·intro w'
          go_simp
          with_reducible rfl
         rotate_left
         ·simp only [Act.put, qa17, qb17, qc17, i64_w, i32_w]
          rfl
         exact norm_ (by first | (simp only [q0m, Act.put, qa17, qb17, qc17]; done) | (simp only [q0m, Act.put, qa17, qb17, qc17]; rfl)) (hJ2_7_11 () _ ⟨hHeld, (by (with_reducible repeat (first | refine q07 ?_ _ | refine q08 ?_ | refine q06 ?_ _)); exact BK169.out), (by repeat (first | (with_reducible first | exact HB.out | apply q02 | apply q00 | apply q01 | refine q09 ?_ GE169.out) | exact HB.out))⟩)
        ·skip
         refine Kd.R_lit_step (Kd.int .u8) _ 5 ?hg (N := 30) ?hd (xs := ([(a0_2) % 256] : List Int)) (inner := [.int .u8 ((a0_2) % 256)]) (ok := fun _ => True) (okp := fun _ => True) ?hr ?hp (fun _ hk => hk) trivial (Below.refl _ _) (Nat.le_refl _) (by simp) ?_; (case hd => rfl); (case hg => rfl); (case hr => first | (go_simp; done) | (go_simp; rfl)); (case hp => exact (Reps.one (show Kd.M (Kd.int .u8) _ _ _ ((a0_2) % 256) [.int .u8 ((a0_2) % 256)] from rfl) (Reps.none _ _)))
         intro v174 w30 ho31 hb hg_ hnew_
         clear hg_ hnew_
         (first | rw [← Ny173.out] at ho31 | (simp only [Int.reduceToNat] at ho31; rw [← Ny173.out] at ho31))
         have n0_ := q04.mk (Kd.R_lower ho31 (q0e (by repeat (first | (with_reducible first | exact HB.out | apply q02 | apply q00 | apply q01 | refine q09 ?_ GE169.out) | exact HB.out))))
         have n1_ := q04.mk (q0f (g := gb169) (o := .cells #[.string a0_0, .int .u64 a0_1, .int .i64 a0_2, .string a0_3] 28 (0, 0)) (by (with_reducible repeat (first | refine q07 ?_ _ | refine q08 ?_ | refine q06 ?_ _)); exact BK169.out) hb)
         have n2_ := q04.mk (q0a (by repeat (first | (with_reducible first | exact HB.out | apply q02 | apply q00 | apply q01 | refine q09 ?_ GE169.out) | exact HB.out)) hb)
         clear BK169
         clear HB
         have HO175 := n0_
         have BK169 := n1_
         have HB := n2_
         clear n0_ n1_ n2_
         clear hb ho31
         refine hK.out _ _ ⟨(q03 BK169.out 0).trans rfl, (q03 BK169.out 1).trans rfl, (q03 BK169.out 2).trans rfl, (q03 BK169.out 3).trans rfl⟩ (fun hHeld => ?_)
         clear hK K
         refine norm_ (a' := ?_) ?_ ?_
         rotate_left
         ·show Act.put _ (some 30) _ = _
          simp only [Act.put, qa17, qb17, qc17, i64_w, i32_w]
          rfl
         exact norm_ (by first | (simp only [q0m, Act.put, qa17, qb17, qc17]; done) | (simp only [q0m, Act.put, qa17, qb17, qc17]; rfl)) (hJ2_7_16 (v174) _ ⟨hHeld, (by (with_reducible repeat (first | apply Kd.R_alloc | apply Kd.R_drewN | apply Kd.R_drew)); exact HO175.out), (by (with_reducible repeat (first | refine q07 ?_ _ | refine q08 ?_ | refine q06 ?_ _)); exact BK169.out), (by repeat (first | (with_reducible first | exact HB.out | apply q02 | apply q00 | apply q01 | refine q09 ?_ GE169.out) | exact HB.out))⟩)
      ·skip
       rintro v174 w31 ⟨hS_, h0_, h1_, h2_⟩
       have n0_ : q04 (Kd.R (Kd.int .u8) 5 w31 w.heap.size (fun _ => True) v174 y173) := ⟨h0_⟩
       have n1_ : q04 (w31.heap[gb169]? = some (.cells #[.string a0_0, .int .u64 a0_1, .int .i64 a0_2, .string a0_3] 28 (0, 0))) := ⟨h1_⟩
       have n2_ : q04 (Below w.heap.size w w31) := ⟨h2_⟩
       clear BK169
       clear HB
       clear h0_ h1_ h2_
       have HO175 := n0_
       have BK169 := n1_
       have HB := n2_
       clear n0_ n1_ n2_
       have hHeld : w31.cell? ⟨gb169, 0, none⟩ = some (.string a0_0) ∧ w31.cell? ⟨gb169, 1, none⟩ = some (.int .u64 a0_1) ∧ w31.cell? ⟨gb169, 2, none⟩ = some (.int .i64 a0_2) ∧ w31.cell? ⟨gb169, 3, none⟩ = some (.string a0_3) := hS_
       refine norm_ (a' := ?_) ?_ ?_
       rotate_left
       ·simp only [q0m, Act.put, qa17, qb17, qc17]
        rfl
       refine one_ (i := 7) (N := some 21) #[true, true, true, true, true, true, true, true, false, true, true, false, false, true, true, true, true, true, false, false] rfl rfl (q13 HT_.out (by kernel_rfl)) (by decide) (fun K hK => ?_)
       refine goes_ Try.func35 (by kernel_rfl) rfl #[.string (a0_0.extract (x5_2 : Int).toNat a0_0.size)] (by rfl) rfl rfl (by (try simp only [List.map_toArray, List.map_cons, List.map_nil]); first | done | rfl | (simp only [List.length_drop, List.length_take]; rfl)) ?_
       with_reducible refine (code_PutField.calls k18 (a0_0.extract (x5_2 : Int).toNat a0_0.size) t171 _ A18.out).mono ?_
       rintro e w32 ⟨rfl, hb⟩
       refine ⟨_, rfl, ?_⟩
       have n0_ := q04.mk (Kd.R_below (by (with_reducible repeat (first | apply Kd.R_alloc | apply Kd.R_drewN | apply Kd.R_drew)); exact HO175.out) hb)
       have n1_ := q04.mk (q0f (g := gb169) (o := .cells #[.string a0_0, .int .u64 a0_1, .int .i64 a0_2, .string a0_3] 28 (0, 0)) (by (with_reducible repeat (first | refine q07 ?_ _ | refine q08 ?_ | refine q06 ?_ _)); exact BK169.out) hb)
       have n2_ := q04.mk (q0a (by repeat (first | (with_reducible first | exact HB.out | apply q02 | apply q00 | apply q01 | refine q09 ?_ GE169.out) | exact HB.out)) hb)
       clear HO175
       clear BK169
       clear HB
       have HO175 := n0_
       have BK169 := n1_
       have HB := n2_
       clear n0_ n1_ n2_
       (try clear hb)
       (try clear hb2)
       (try clear hk)
       (try clear hi)
       refine hK.out _ _ ⟨(q03 BK169.out 0).trans rfl, (q03 BK169.out 1).trans rfl, (q03 BK169.out 2).trans rfl, (q03 BK169.out 3).trans rfl⟩ (fun hHeld => ?_)
       clear hK K
       refine norm_ (a' := ?_) ?_ ?_
       rotate_left
       ·show Act.put _ (some 21) _ = _
        simp only [Act.put, qa17, qb17, qc17, i64_w, i32_w]
        rfl
       refine pure_ (i := 8) (N := some 22) (v := ?_) (a' := ?_) #[true, true, true, true, true, true, true, true, true, true, true, false, false, true, true, true, true, true, false, false] rfl rfl (q0j HT_.out (by kernel_rfl)) (fun _ _ _ h => h) (Or.inl ⟨by rfl, ?_⟩) ?_ ?_
       rotate_left
       ·intro w'
        go_simp
        with_reducible rfl
       rotate_left
       ·simp only [Act.put, qa17, qb17, qc17, i64_w, i32_w]
        rfl
       exact norm_ (by first | (simp only [q0m, Act.put, qa17, qb17, qc17]; done) | (simp only [q0m, Act.put, qa17, qb17, qc17]; rfl)) (hJ2_7_16_17 (v174) _ ⟨hHeld, (by (with_reducible repeat (first | apply Kd.R_alloc | apply Kd.R_drewN | apply Kd.R_drew)); exact HO175.out), (by (with_reducible repeat (first | refine q07 ?_ _ | refine q08 ?_ | refine q06 ?_ _)); exact BK169.out), (by repeat (first | (with_reducible first | exact HB.out | apply q02 | apply q00 | apply q01 | refine q09 ?_ GE169.out) | exact HB.out))⟩)
     ·skip
      rintro v174 w31 ⟨hS_, h0_, h1_, h2_⟩
      have n0_ : q04 (Kd.R (Kd.int .u8) 5 w31 w.heap.size (fun _ => True) v174 y173) := ⟨h0_⟩
      have n1_ : q04 (w31.heap[gb169]? = some (.cells #[.string a0_0, .int .u64 a0_1, .int .i64 a0_2, .string a0_3] 28 (0, 0))) := ⟨h1_⟩
      have n2_ : q04 (Below w.heap.size w w31) := ⟨h2_⟩
      clear BK169
      clear HB
      clear h0_ h1_ h2_
      have HO175 := n0_
      have BK169 := n1_
      have HB := n2_
      clear n0_ n1_ n2_
      have hHeld : w31.cell? ⟨gb169, 0, none⟩ = some (.string a0_0) ∧ w31.cell? ⟨gb169, 1, none⟩ = some (.int .u64 a0_1) ∧ w31.cell? ⟨gb169, 2, none⟩ = some (.int .i64 a0_2) ∧ w31.cell? ⟨gb169, 3, none⟩ = some (.string a0_3) := hS_
      refine norm_ (a' := ?_) ?_ ?_
      rotate_left
      ·simp only [q0m, Act.put, qa17, qb17, qc17]
       rfl
      refine two_ (i := 11) (j := 17) (Ni := some 25) (Nj := some 31) #[true, true, true, true, true, true, true, true, true, true, true, true, false, true, true, true, true, false, false, false] #[true, true, true, true, true, true, true, true, true, true, true, false, false, true, true, true, true, true, false, false] rfl rfl rfl rfl (two_of HT_.out (by kernel_rfl)) (by decide) (by decide) (fun K hK => ?_) (fun K hK => ?_)
      ·skip
       refine goes_ Try.func36 (by kernel_rfl) rfl #[.int .u64 a0_1] (by rfl) rfl rfl (by (try simp only [List.map_toArray, List.map_cons, List.map_nil]); first | done | rfl | (simp only [List.length_drop, List.length_take]; rfl)) ?_
       with_reducible refine (code_PutUint.calls k20 a0_1 t172 _ A20.out).mono ?_
       rintro e w32 ⟨rfl, hb⟩
       refine ⟨_, rfl, ?_⟩
       have n0_ := q04.mk (Kd.R_below (by (with_reducible repeat (first | apply Kd.R_alloc | apply Kd.R_drewN | apply Kd.R_drew)); exact HO175.out) hb)
       have n1_ := q04.mk (q0f (g := gb169) (o := .cells #[.string a0_0, .int .u64 a0_1, .int .i64 a0_2, .string a0_3] 28 (0, 0)) (by (with_reducible repeat (first | refine q07 ?_ _ | refine q08 ?_ | refine q06 ?_ _)); exact BK169.out) hb)
       have n2_ := q04.mk (q0a (by repeat (first | (with_reducible first | exact HB.out | apply q02 | apply q00 | apply q01 | refine q09 ?_ GE169.out) | exact HB.out)) hb)
       clear HO175
       clear BK169
       clear HB
       have HO175 := n0_
       have BK169 := n1_
       have HB := n2_
       clear n0_ n1_ n2_
       (try clear hb)
       (try clear hb2)
       (try clear hk)
       (try clear hi)
       refine hK.out _ _ ⟨(q03 BK169.out 0).trans rfl, (q03 BK169.out 1).trans rfl, (q03 BK169.out 2).trans rfl, (q03 BK169.out 3).trans rfl⟩ (fun hHeld => ?_)
       clear hK K
       refine norm_ (a' := ?_) ?_ ?_
       rotate_left
       ·show Act.put _ (some 25) _ = _
        simp only [Act.put, qa17, qb17, qc17, i64_w, i32_w]
        rfl
       refine pure_ (i := 12) (N := some 26) (v := ?_) (a' := ?_) #[true, true, true, true, true, true, true, true, true, true, true, true, true, true, true, true, true, false, false, false] rfl rfl (q0j HT_.out (by kernel_rfl)) (fun _ _ _ h => h) (Or.inl ⟨by rfl, ?_⟩) ?_ ?_
       rotate_left
       ·intro w'
        go_simp
        with_reducible rfl
       rotate_left
       ·simp only [Act.put, qa17, qb17, qc17, i64_w, i32_w]
        rfl
       exact norm_ (by first | (simp only [q0m, Act.put, qa17, qb17, qc17]; done) | (simp only [q0m, Act.put, qa17, qb17, qc17]; rfl)) (hJ2_7_11_16 (v174) _ ⟨hHeld, (by (with_reducible repeat (first | apply Kd.R_alloc | apply Kd.R_drewN | apply Kd.R_drew)); exact HO175.out), (by (with_reducible repeat (first | refine q07 ?_ _ | refine q08 ?_ | refine q06 ?_ _)); exact BK169.out), (by repeat (first | (with_reducible first | exact HB.out | apply q02 | apply q00 | apply q01 | refine q09 ?_ GE169.out) | exact HB.out))⟩)
      ·skip
       have hcv32 := q14 (P := Try.prog) Try.underlying55 Try.underlying5 Try.underlying9 (Kd.own_of_R HO175.out)
       refine value_ (w1 := ?_) (v := ?_) (by rfl) rfl ?_ ?_
       rotate_left 2
       ·go_simp
        constructor
        ·rfl
        ·rfl
       clear hcv32
       refine hK.out _ _ ⟨(q03 BK169.out 0).trans rfl, (q03 BK169.out 1).trans rfl, (q03 BK169.out 2).trans rfl, (q03 BK169.out 3).trans rfl⟩ (fun hHeld => ?_)
       clear hK K
       refine norm_ (a' := ?_) ?_ ?_
       rotate_left
       ·show Act.put _ (some 31) _ = _
        simp only [Act.put, qa17, qb17, qc17, i64_w, i32_w]
        rfl
       exact norm_ (by first | (simp only [q0m, Act.put, qa17, qb17, qc17]; done) | (simp only [q0m, Act.put, qa17, qb17, qc17]; rfl)) (hJ2_7_16_17 (v174) _ ⟨hHeld, (by (with_reducible repeat (first | apply Kd.R_alloc | apply Kd.R_drewN | apply Kd.R_drew)); exact HO175.out), (by (with_reducible repeat (first | refine q07 ?_ _ | refine q08 ?_ | refine q06 ?_ _)); exact BK169.out), (by repeat (first | (with_reducible first | exact HB.out | apply q02 | apply q00 | apply q01 | refine q09 ?_ GE169.out) | exact HB.out))⟩)
    ·skip
     rintro _ w30 ⟨hS_, h0_, h1_⟩
     have n0_ : q04 (w30.heap[gb169]? = some (.cells #[.string a0_0, .int .u64 a0_1, .int .i64 a0_2, .string a0_3] 28 (0, 0))) := ⟨h0_⟩
     have n1_ : q04 (Below w.heap.size w w30) := ⟨h1_⟩
     clear BK169
     clear HB
     clear h0_ h1_
     have BK169 := n0_
     have HB := n1_
     clear n0_ n1_
     have hHeld : w30.cell? ⟨gb169, 0, none⟩ = some (.string a0_0) ∧ w30.cell? ⟨gb169, 1, none⟩ = some (.int .u64 a0_1) ∧ w30.cell? ⟨gb169, 2, none⟩ = some (.int .i64 a0_2) ∧ w30.cell? ⟨gb169, 3, none⟩ = some (.string a0_3) := hS_
     refine norm_ (a' := ?_) ?_ ?_
     rotate_left
     ·simp only [q0m, Act.put, qa17, qb17, qc17]
      rfl
     refine one_ (i := 16) (N := some 30) #[true, true, true, true, true, true, true, true, true, true, true, true, true, true, true, true, true, false, false, false] rfl rfl (q13 HT_.out (by kernel_rfl)) (by decide) (fun K hK => ?_)
     refine Kd.R_lit_step (Kd.int .u8) _ 5 ?hg (N := 30) ?hd (xs := ([(a0_2) % 256] : List Int)) (inner := [.int .u8 ((a0_2) % 256)]) (ok := fun _ => True) (okp := fun _ => True) ?hr ?hp (fun _ hk => hk) trivial (Below.refl _ _) (Nat.le_refl _) (by simp) ?_; (case hd => rfl); (case hg => rfl); (case hr => first | (go_simp; done) | (go_simp; rfl)); (case hp => exact (Reps.one (show Kd.M (Kd.int .u8) _ _ _ ((a0_2) % 256) [.int .u8 ((a0_2) % 256)] from rfl) (Reps.none _ _)))
     intro v174 w31 ho32 hb hg_ hnew_
     clear hg_ hnew_
     (first | rw [← Ny173.out] at ho32 | (simp only [Int.reduceToNat] at ho32; rw [← Ny173.out] at ho32))
     have n0_ := q04.mk (Kd.R_lower ho32 (q0e (by repeat (first | (with_reducible first | exact HB.out | apply q02 | apply q00 | apply q01 | refine q09 ?_ GE169.out) | exact HB.out))))
     have n1_ := q04.mk (q0f (g := gb169) (o := .cells #[.string a0_0, .int .u64 a0_1, .int .i64 a0_2, .string a0_3] 28 (0, 0)) (by (with_reducible repeat (first | refine q07 ?_ _ | refine q08 ?_ | refine q06 ?_ _)); exact BK169.out) hb)
     have n2_ := q04.mk (q0a (by repeat (first | (with_reducible first | exact HB.out | apply q02 | apply q00 | apply q01 | refine q09 ?_ GE169.out) | exact HB.out)) hb)
     clear BK169
     clear HB
     have HO175 := n0_
     have BK169 := n1_
     have HB := n2_
     clear n0_ n1_ n2_
     clear hb ho32
     refine hK.out _ _ ⟨(q03 BK169.out 0).trans rfl, (q03 BK169.out 1).trans rfl, (q03 BK169.out 2).trans rfl, (q03 BK169.out 3).trans rfl⟩ (fun hHeld => ?_)
     clear hK K
     refine norm_ (a' := ?_) ?_ ?_
     rotate_left
     ·show Act.put _ (some 30) _ = _
      simp only [Act.put, qa17, qb17, qc17, i64_w, i32_w]
      rfl
     exact norm_ (by first | (simp only [q0m, Act.put, qa17, qb17, qc17]; done) | (simp only [q0m, Act.put, qa17, qb17, qc17]; rfl)) (hJ2_7_11_16 (v174) _ ⟨hHeld, (by (with_reducible repeat (first | apply Kd.R_alloc | apply Kd.R_drewN | apply Kd.R_drew)); exact HO175.out), (by (with_reducible repeat (first | refine q07 ?_ _ | refine q08 ?_ | refine q06 ?_ _)); exact BK169.out), (by repeat (first | (with_reducible first | exact HB.out | apply q02 | apply q00 | apply q01 | refine q09 ?_ GE169.out) | exact HB.out))⟩)
   ·skip
    rintro v174 w32 ⟨hS_, h0_, h1_, h2_⟩
    have n0_ : q04 (Kd.R (Kd.int .u8) 5 w32 w.heap.size (fun _ => True) v174 y173) := ⟨h0_⟩
    have n1_ : q04 (w32.heap[gb169]? = some (.cells #[.string a0_0, .int .u64 a0_1, .int .i64 a0_2, .string a0_3] 28 (0, 0))) := ⟨h1_⟩
    have n2_ : q04 (Below w.heap.size w w32) := ⟨h2_⟩
    clear BK169
    clear HB
    clear h0_ h1_ h2_
    have HO175 := n0_
    have BK169 := n1_
    have HB := n2_
    clear n0_ n1_ n2_
    have hHeld : w32.cell? ⟨gb169, 0, none⟩ = some (.string a0_0) ∧ w32.cell? ⟨gb169, 1, none⟩ = some (.int .u64 a0_1) ∧ w32.cell? ⟨gb169, 2, none⟩ = some (.int .i64 a0_2) ∧ w32.cell? ⟨gb169, 3, none⟩ = some (.string a0_3) := hS_
    refine norm_ (a' := ?_) ?_ ?_
    rotate_left
    ·simp only [q0m, Act.put, qa17, qb17, qc17]
     rfl
    refine one_ (i := 11) (N := some 25) #[true, true, true, true, true, true, true, true, true, true, true, true, false, true, true, true, true, true, false, false] rfl rfl (q13 HT_.out (by kernel_rfl)) (by decide) (fun K hK => ?_)
    refine goes_ Try.func36 (by kernel_rfl) rfl #[.int .u64 a0_1] (by rfl) rfl rfl (by (try simp only [List.map_toArray, List.map_cons, List.map_nil]); first | done | rfl | (simp only [List.length_drop, List.length_take]; rfl)) ?_
    with_reducible refine (code_PutUint.calls k20 a0_1 t172 _ A20.out).mono ?_
    rintro e w33 ⟨rfl, hb⟩
    refine ⟨_, rfl, ?_⟩
    have n0_ := q04.mk (Kd.R_below (by (with_reducible repeat (first | apply Kd.R_alloc | apply Kd.R_drewN | apply Kd.R_drew)); exact HO175.out) hb)
    have n1_ := q04.mk (q0f (g := gb169) (o := .cells #[.string a0_0, .int .u64 a0_1, .int .i64 a0_2, .string a0_3] 28 (0, 0)) (by (with_reducible repeat (first | refine q07 ?_ _ | refine q08 ?_ | refine q06 ?_ _)); exact BK169.out) hb)
    have n2_ := q04.mk (q0a (by repeat (first | (with_reducible first | exact HB.out | apply q02 | apply q00 | apply q01 | refine q09 ?_ GE169.out) | exact HB.out)) hb)
    clear HO175
    clear BK169
    clear HB
    have HO175 := n0_
    have BK169 := n1_
    have HB := n2_
    clear n0_ n1_ n2_
    (try clear hb)
    (try clear hb2)
    (try clear hk)
    (try clear hi)
    refine hK.out _ _ ⟨(q03 BK169.out 0).trans rfl, (q03 BK169.out 1).trans rfl, (q03 BK169.out 2).trans rfl, (q03 BK169.out 3).trans rfl⟩ (fun hHeld => ?_)
    clear hK K
    refine norm_ (a' := ?_) ?_ ?_
    rotate_left
    ·show Act.put _ (some 25) _ = _
     simp only [Act.put, qa17, qb17, qc17, i64_w, i32_w]
     rfl
    refine pure_ (i := 12) (N := some 26) (v := ?_) (a' := ?_) #[true, true, true, true, true, true, true, true, true, true, true, true, true, true, true, true, true, true, false, false] rfl rfl (q0j HT_.out (by kernel_rfl)) (fun _ _ _ h => h) (Or.inl ⟨by rfl, ?_⟩) ?_ ?_
    rotate_left
    ·intro w'
     go_simp
     with_reducible rfl
    rotate_left
    ·simp only [Act.put, qa17, qb17, qc17, i64_w, i32_w]
     rfl
    exact norm_ (by first | (simp only [q0m, Act.put, qa17, qb17, qc17]; done) | (simp only [q0m, Act.put, qa17, qb17, qc17]; rfl)) (hJ2_7_11_16_17 (v174) _ ⟨hHeld, (by (with_reducible repeat (first | apply Kd.R_alloc | apply Kd.R_drewN | apply Kd.R_drew)); exact HO175.out), (by (with_reducible repeat (first | refine q07 ?_ _ | refine q08 ?_ | refine q06 ?_ _)); exact BK169.out), (by repeat (first | (with_reducible first | exact HB.out | apply q02 | apply q00 | apply q01 | refine q09 ?_ GE169.out) | exact HB.out))⟩)
  ·skip
   rintro v174 w32 ⟨hS_, h0_, h1_, h2_⟩
   have n0_ : q04 (Kd.R (Kd.int .u8) 5 w32 w.heap.size (fun _ => True) v174 y173) := ⟨h0_⟩
   have n1_ : q04 (w32.heap[gb169]? = some (.cells #[.string a0_0, .int .u64 a0_1, .int .i64 a0_2, .string a0_3] 28 (0, 0))) := ⟨h1_⟩
   have n2_ : q04 (Below w.heap.size w w32) := ⟨h2_⟩
   clear BK169
   clear HB
   clear h0_ h1_ h2_
   have HO175 := n0_
   have BK169 := n1_
   have HB := n2_
   clear n0_ n1_ n2_
   have hHeld : w32.cell? ⟨gb169, 0, none⟩ = some (.string a0_0) ∧ w32.cell? ⟨gb169, 1, none⟩ = some (.int .u64 a0_1) ∧ w32.cell? ⟨gb169, 2, none⟩ = some (.int .i64 a0_2) ∧ w32.cell? ⟨gb169, 3, none⟩ = some (.string a0_3) := hS_
   refine norm_ (a' := ?_) ?_ ?_
   rotate_left
   ·simp only [q0m, Act.put, qa17, qb17, qc17]
    rfl
   refine one_ (i := 17) (N := some 31) #[true, true, true, true, true, true, true, true, true, true, true, true, true, true, true, true, true, true, false, false] rfl rfl (q13 HT_.out (by kernel_rfl)) (by decide) (fun K hK => ?_)
   have hcv33 := q14 (P := Try.prog) Try.underlying55 Try.underlying5 Try.underlying9 (Kd.own_of_R HO175.out)
   refine value_ (w1 := ?_) (v := ?_) (by rfl) rfl ?_ ?_
   rotate_left 2
   ·go_simp
    constructor
    ·rfl
    ·rfl
   clear hcv33
   refine hK.out _ _ ⟨(q03 BK169.out 0).trans rfl, (q03 BK169.out 1).trans rfl, (q03 BK169.out 2).trans rfl, (q03 BK169.out 3).trans rfl⟩ (fun hHeld => ?_)
   clear hK K
   refine norm_ (a' := ?_) ?_ ?_
   rotate_left
   ·show Act.put _ (some 31) _ = _
    simp only [Act.put, qa17, qb17, qc17, i64_w, i32_w]
    rfl
   exact norm_ (by first | (simp only [q0m, Act.put, qa17, qb17, qc17]; done) | (simp only [q0m, Act.put, qa17, qb17, qc17]; rfl)) (hJ2_7_11_16_17 (v174) _ ⟨hHeld, (by (with_reducible repeat (first | apply Kd.R_alloc | apply Kd.R_drewN | apply Kd.R_drew)); exact HO175.out), (by (with_reducible repeat (first | refine q07 ?_ _ | refine q08 ?_ | refine q06 ?_ _)); exact BK169.out), (by repeat (first | (with_reducible first | exact HB.out | apply q02 | apply q00 | apply q01 | refine q09 ?_ GE169.out) | exact HB.out))⟩)
 rintro v174 w33 ⟨hS_, h0_, h1_, h2_⟩
 have n0_ : q04 (Kd.R (Kd.int .u8) 5 w33 w.heap.size (fun _ => True) v174 y173) := ⟨h0_⟩
 have n1_ : q04 (w33.heap[gb169]? = some (.cells #[.string a0_0, .int .u64 a0_1, .int .i64 a0_2, .string a0_3] 28 (0, 0))) := ⟨h1_⟩
 have n2_ : q04 (Below w.heap.size w w33) := ⟨h2_⟩
 clear BK169
 clear HB
 clear h0_ h1_ h2_
 have HO175 := n0_
 have BK169 := n1_
 have HB := n2_
 clear n0_ n1_ n2_
 have hHeld : w33.cell? ⟨gb169, 0, none⟩ = some (.string a0_0) ∧ w33.cell? ⟨gb169, 1, none⟩ = some (.int .u64 a0_1) ∧ w33.cell? ⟨gb169, 2, none⟩ = some (.int .i64 a0_2) ∧ w33.cell? ⟨gb169, 3, none⟩ = some (.string a0_3) := hS_
 refine norm_ (a' := ?_) ?_ ?_
 rotate_left
 ·simp only [q0m, Act.put, qa17, qb17, qc17]
  rfl
 refine pure_ (i := 18) (N := some 32) (v := ?_) (a' := ?_) #[true, true, true, true, true, true, true, true, true, true, true, true, true, true, true, true, true, true, true, false] rfl rfl (q0j HT_.out (by kernel_rfl)) (fun _ _ _ h => h) (Or.inl ⟨by rfl, ?_⟩) ?_ ?_
 rotate_left
 ·intro w'
  go_simp
  with_reducible rfl
 rotate_left
 ·simp only [Act.put, qa17, qb17, qc17, i64_w, i32_w]
  rfl
 refine pure_ (i := 19) (N := some 7) (v := ?_) (a' := ?_) #[true, true, true, true, true, true, true, true, true, true, true, true, true, true, true, true, true, true, true, true] rfl rfl (q0j HT_.out (by kernel_rfl)) (fun _ _ _ h => h) (Or.inl ⟨by rfl, ?_⟩) ?_ ?_
 rotate_left
 ·intro w'
  go_simp
  with_reducible rfl
 rotate_left
 ·simp only [Act.put, qa17, qb17, qc17, i64_w, i32_w]
  rfl
 refine done_ (q1u HT_.out (by kernel_rfl)) ?_
 have hcz34_0 : w33.cell? ⟨gb169, 0, none⟩ = some (.string a0_0) := (q03 BK169.out 0).trans rfl
 have hcz34_1 : w33.cell? ⟨gb169, 1, none⟩ = some (.int .u64 a0_1) := (q03 BK169.out 1).trans rfl
 have hcz34_2 : w33.cell? ⟨gb169, 2, none⟩ = some (.int .i64 a0_2) := (q03 BK169.out 2).trans rfl
 have hcz34_3 : w33.cell? ⟨gb169, 3, none⟩ = some (.string a0_3) := (q03 BK169.out 3).trans rfl
 have hfz34_0 := q05 BK169.out 0
 have hfz34_1 := q05 BK169.out 1
 have hfz34_2 := q05 BK169.out 2
 have hfz34_3 := q05 BK169.out 3
 have HV := Lib.hid (HW.out.below HB.out)
 have HI := Lib.hid (show Blk w33 gb169 28 #[.string a0_0, .int .u64 a0_1, .int .i64 a0_2, .string a0_3] from BK169.out)
 obtain ⟨i0, hi, hz0, hz1, hz2⟩ := info_parts infoU8
 have hz := HZ.out
 have hkk := HK.out
 by_cases ck : a0_2 = 1
 ·have ckb : (a0_2 == 1) = true := beq_iff_eq.2 ck
  have HE2 := HE.out
  rw [if_pos ck] at HE2
  replace HE2 := Lib.hid HE2
  have c25b2 : (9223372036854775807 < (((t170 ++ t171) ++ t172) ++ (strOfNums y173)).size + t176.size) = False := eq_false (by simp only [ByteArray.size_append]; omega)
  have c25b6 : (9223372036854775807 < t170.size + t171.size + t172.size + (strOfNums y173).size + t176.size) = False := eq_false (by omega)
  have hts0 : ((((t170 ++ t171) ++ t172) ++ strOfNums y173) ++ t176).size ≤ 5000 := by simp only [ByteArray.size_append]; omega
  clear ck HE hz
  go_wp2_with fail
  refine (HP4.out _).mono ?_
  rintro e w4 ⟨rfl, hb4⟩
  replace HV := Lib.hid (HV.out.below hb4)
  replace HI := Lib.hid (HI.out.below hb4 HI.out.lt)
  clear hb4
  go_wp2_with fail
  generalize hts : (((t170 ++ t171) ++ t172) ++ strOfNums y173) ++ t176 = ts at hts0 HE2 ⊢
  clear hts
  clear c25b2 c25b6
  have m0 : w4.cell? ⟨gb169, 0, none⟩ = some (.string a0_0) := (HI.out.cell 0).trans rfl
  have m1 : w4.cell? ⟨b1, 0, none⟩ = some v := (HV.out.out.cell 0).trans rfl
  have m3 : w4.cell? ⟨b3, 0, none⟩ = some (.pointer (some ⟨b1, 0, none⟩)) := (HV.out.ptr.cell 0).trans rfl
  have nb1 : gb169 ≠ b1 := HI.out.ne_ HV.out.out (by decide)
  have nb3 : b1 ≠ b3 := HV.out.out.ne_ HV.out.ptr (by decide)
  have nb2 : gb169 ≠ b2 := HI.out.ne_ HV.out.lst (by decide)
  have nb12 : b1 ≠ b2 := HV.out.out.ne_ HV.out.lst (by decide)
  replace HV := Lib.hid HV.out.drew
  replace HI := Lib.hid HI.out.drew
  refine start_ (n := 11) (S := fun w' => w'.cell? ⟨gb169, 0, none⟩ = some (.string a0_0) ∧ w'.cell? ⟨b3, 0, none⟩ = some (.pointer (some ⟨b1, 0, none⟩))) (ds := []) #[false, false, false, false, false, false, false, false, false, false, false] (by kernel_rfl) rfl rfl ⟨m0, m3⟩ (fun hHeld => ?_); refine q16 tabW7 bitsW7 (fun HT_ HW_ => ?_)
  clear m0 m1 m3
  generalize w4.drew = wy at HV HI hHeld ⊢
  have m0 : wy.cell? ⟨gb169, 0, none⟩ = some (.string a0_0) := (HI.out.cell 0).trans rfl
  have m1 : wy.cell? ⟨b1, 0, none⟩ = some v := (HV.out.out.cell 0).trans rfl
  have m3 : wy.cell? ⟨b3, 0, none⟩ = some (.pointer (some ⟨b1, 0, none⟩)) := (HV.out.ptr.cell 0).trans rfl
  refine take_ (i := 0) (N := some 41) (v := ?_) (a' := ?_) #[true, false, false, false, false, false, false, false, false, false, false] rfl rfl (q0w HT_.out HW_.out (by kernel_rfl)) (fun _ _ _ h => h) (Or.inl ⟨by rfl, ?_⟩) hHeld ?_ ?_
  rotate_left
  ·rintro w' ⟨s0, s1⟩
   go_simp
   with_reducible rfl
  rotate_left
  ·simp only [Act.put, qa17, qb17, qc17, i64_w, i32_w]
   rfl
  refine take_ (i := 1) (N := some 42) (v := ?_) (a' := ?_) #[true, true, false, false, false, false, false, false, false, false, false] rfl rfl (q0w HT_.out HW_.out (by kernel_rfl)) (fun _ _ _ h => h) (Or.inl ⟨by rfl, ?_⟩) hHeld ?_ ?_
  rotate_left
  ·rintro w' ⟨s0, s1⟩
   go_simp
   with_reducible rfl
  rotate_left
  ·simp only [Act.put, qa17, qb17, qc17, i64_w, i32_w]
   rfl
  refine pure_ (i := 2) (N := some 43) (v := ?_) (a' := ?_) #[true, true, true, false, false, false, false, false, false, false, false] rfl rfl (q0j HT_.out (by kernel_rfl)) (fun _ _ _ h => h) (Or.inl ⟨by rfl, ?_⟩) ?_ ?_
  rotate_left
  ·intro w'
   go_simp
   with_reducible rfl
  rotate_left
  ·simp only [Act.put, qa17, qb17, qc17, i64_w, i32_w]
   rfl
  refine pure_ (i := 4) (N := some 45) (v := ?_) (a' := ?_) #[true, true, true, false, true, false, false, false, false, false, false] rfl rfl (q0j HT_.out (by kernel_rfl)) (fun _ _ _ h => h) (Or.inl ⟨by rfl, ?_⟩) ?_ ?_
  rotate_left
  ·intro w'
   go_simp
   with_reducible rfl
  rotate_left
  ·simp only [Act.put, qa17, qb17, qc17, i64_w, i32_w]
   rfl
  refine pure_ (i := 6) (N := some 47) (v := ?_) (a' := ?_) #[true, true, true, false, true, false, true, false, false, false, false] rfl rfl (q0j HT_.out (by kernel_rfl)) (fun _ _ _ h => h) (Or.inl ⟨by rfl, ?_⟩) ?_ ?_
  rotate_left
  ·intro w'
   go_simp
   with_reducible rfl
  rotate_left
  ·simp only [Act.put, qa17, qb17, qc17, i64_w, i32_w]
   rfl
  refine take_ (i := 7) (N := some 48) (v := ?_) (a' := ?_) #[true, true, true, false, true, false, true, true, false, false, false] rfl rfl (q0w HT_.out HW_.out (by kernel_rfl)) (fun _ _ _ h => h) (Or.inl ⟨by rfl, ?_⟩) hHeld ?_ ?_
  rotate_left
  ·rintro w' ⟨s0, s1⟩
   go_simp
   with_reducible rfl
  rotate_left
  ·simp only [Act.put, qa17, qb17, qc17, i64_w, i32_w]
   rfl
  refine one_ (i := 3) (N := some 44) #[true, true, true, true, true, false, true, true, false, false, false] rfl rfl (q13 HT_.out (by kernel_rfl)) (by decide) (fun K hK => ?_)
  refine value_ (w1 := wy) (v := v) rfl rfl (by go_simp) ?_
  refine hK.out _ _ ⟨m0, m3⟩ (fun hHeld => ?_)
  clear hK K
  refine norm_ (a' := ?_) ?_ ?_
  rotate_left
  ·show Act.put _ (some 44) _ = _
   simp only [Act.put, qa17, qb17, qc17, i64_w, i32_w]
   rfl
  refine one_ (i := 5) (N := some 46) #[true, true, true, true, true, true, true, true, false, false, false] rfl rfl (q13 HT_.out (by kernel_rfl)) (by decide) (fun K hK => ?_)
  refine q1j rfl (.tmp 44) (.tmp 45) 55 9 rfl w0.heap.size 5 i0 Try.underlying55 Try.underlying9 hi hz0 hz1 hz2 v xs.size (Lib.strCells xs) rfl HV.out.row ts rfl (by unfold maxLen; omega) (by omega) HV.out.low.size ?_
  intro v1 w1 hown1 hg1
  obtain ⟨vA, vn, vc, rfl⟩ := own_slice hown1
  have hcells := HV.out.kept HI.out hg1
  have j0 := hcells.1
  have j3 := hcells.2
  have f1 := (HV.out.out.grown hg1 (fun e => q12 HV.out.row HV.out.out (by decide) e.symm))
  have f2 := (HV.out.lst.grown hg1 (fun e => q12 HV.out.row HV.out.lst (by decide) e.symm))
  have q1 : w1.cell? ⟨b1, 0, none⟩ = some v := (f1.cell 0).trans rfl
  have q2 : w1.cell? ⟨b2, 0, none⟩ = some (.string last) := (f2.cell 0).trans rfl
  have q1f := f1.frozen 0
  have q2f := f2.frozen 0
  have f3 : Blk (w1.setCell ⟨b1, 0, none⟩ (.slice vA vn vc)) b2 9 #[.string last] := f2.far (Ne.symm nb12) _
  have q3 : (w1.setCell ⟨b1, 0, none⟩ (.slice vA vn vc)).cell? ⟨b2, 0, none⟩ = some (.string last) := (f3.cell 0).trans rfl
  have q3f := f3.frozen 0
  have HP := Lib.hid (HV.out.put hown1 hg1 a0_0)
  clear f1 f2 f3
  refine hK.out _ _ ⟨j0, j3⟩ (fun hHeld => ?_)
  clear hK K
  refine norm_ (a' := ?_) ?_ ?_
  rotate_left
  ·show Act.put _ (some 46) _ = _
   simp only [Act.put, qa17, qb17, qc17, i64_w, i32_w]
   rfl
  refine one_ (i := 8) (N := some 49) #[true, true, true, true, true, true, true, true, true, false, false] rfl rfl (q13 HT_.out (by kernel_rfl)) (by decide) (fun K hK => ?_)
  refine value_ (w1 := w1) (v := .pointer (some ⟨b1, 0, none⟩)) rfl rfl (by go_simp) ?_
  refine hK.out _ _ ⟨j0, j3⟩ (fun hHeld => ?_)
  clear hK K
  refine norm_ (a' := ?_) ?_ ?_
  rotate_left
  ·show Act.put _ (some 49) _ = _
   simp only [Act.put, qa17, qb17, qc17, i64_w, i32_w]
   rfl
  refine one_ (i := 9) (N := none) #[true, true, true, true, true, true, true, true, true, true, false] rfl rfl (q13 HT_.out (by kernel_rfl)) (by decide) (fun K hK => ?_)
  refine skip_ (w1 := w1.setCell ⟨b1, 0, none⟩ (.slice vA vn vc)) rfl rfl (by go_simp) ?_
  refine hK.out _ _ ⟨(World.cell?_setCell_other _ _ _ _ (by intro e; injection e with e; exact nb1 e.symm)).trans j0, (World.cell?_setCell_other _ _ _ _ (by intro e; injection e with e; exact nb3 e)).trans j3⟩ (fun hHeld => ?_)
  clear hK K
  refine one_ (i := 10) (N := none) #[true, true, true, true, true, true, true, true, true, true, true] rfl rfl (q13 HT_.out (by kernel_rfl)) (by decide) (fun K hK => ?_)
  refine skip_ (w1 := (w1.setCell ⟨b1, 0, none⟩ (.slice vA vn vc)).setCell ⟨b2, 0, none⟩ (.string a0_0)) rfl rfl (by go_simp) ?_
  refine hK.out _ _ ⟨(World.cell?_setCell_other _ _ _ _ (by intro e; injection e with e; exact nb2 e.symm)).trans hHeld.1, (HP.out.ptr.cell 0).trans rfl⟩ (fun hHeld => ?_)
  clear hK K
  refine done_ (q1u HT_.out (by kernel_rfl)) ?_
  clear m0 m1 m3 q1 q2 q3 q1f q2f q3f j0 j3 hcells
  have HF := HP.out
  rw [← HE2.out] at HF
  clear HP HV HI HW
  show bodyPost _ _ (fun e w' => e = .returned (.tuple #[]) ∧ ∃ v', W3 w0 w' b1 b2 b3 v' (xs ++ B (PBlock.rowEnc (rowOf a0_0 a0_1 a0_2 a0_3) (L last))) a0_0) _ _ _
  simp [bodyPost, results, Try.results80]
  exact ⟨_, HF⟩
 ·have ckb : (a0_2 == 1) = false := beq_eq_false_iff_ne.2 ck
  have HE2 := HE.out.trans (show _ = ((t170 ++ t171) ++ t172) ++ strOfNums y173 by rw [if_neg ck]; apply L_inj; simp [q0t])
  replace HE2 := Lib.hid HE2
  have hts0 : (((t170 ++ t171) ++ t172) ++ strOfNums y173).size ≤ 5000 := by simp only [ByteArray.size_append]; omega
  clear ck HE hz
  go_wp2_with fail
  generalize hts : ((t170 ++ t171) ++ t172) ++ strOfNums y173 = ts at hts0 HE2 ⊢
  clear hts
  clear hcz34_0 hcz34_1 hcz34_2 hcz34_3
  have m0 : w33.cell? ⟨gb169, 0, none⟩ = some (.string a0_0) := (HI.out.cell 0).trans rfl
  have m1 : w33.cell? ⟨b1, 0, none⟩ = some v := (HV.out.out.cell 0).trans rfl
  have m3 : w33.cell? ⟨b3, 0, none⟩ = some (.pointer (some ⟨b1, 0, none⟩)) := (HV.out.ptr.cell 0).trans rfl
  have nb1 : gb169 ≠ b1 := HI.out.ne_ HV.out.out (by decide)
  have nb3 : b1 ≠ b3 := HV.out.out.ne_ HV.out.ptr (by decide)
  have nb2 : gb169 ≠ b2 := HI.out.ne_ HV.out.lst (by decide)
  have nb12 : b1 ≠ b2 := HV.out.out.ne_ HV.out.lst (by decide)
  replace HV := Lib.hid HV.out.drew
  replace HI := Lib.hid HI.out.drew
  refine start_ (n := 11) (S := fun w' => w'.cell? ⟨gb169, 0, none⟩ = some (.string a0_0) ∧ w'.cell? ⟨b3, 0, none⟩ = some (.pointer (some ⟨b1, 0, none⟩))) (ds := []) #[false, false, false, false, false, false, false, false, false, false, false] (by kernel_rfl) rfl rfl ⟨m0, m3⟩ (fun hHeld => ?_); refine q16 tabW7 bitsW7 (fun HT_ HW_ => ?_)
  clear m0 m1 m3
  generalize w33.drew = wy at HV HI hHeld ⊢
  have m0 : wy.cell? ⟨gb169, 0, none⟩ = some (.string a0_0) := (HI.out.cell 0).trans rfl
  have m1 : wy.cell? ⟨b1, 0, none⟩ = some v := (HV.out.out.cell 0).trans rfl
  have m3 : wy.cell? ⟨b3, 0, none⟩ = some (.pointer (some ⟨b1, 0, none⟩)) := (HV.out.ptr.cell 0).trans rfl
  refine take_ (i := 0) (N := some 41) (v := ?_) (a' := ?_) #[true, false, false, false, false, false, false, false, false, false, false] rfl rfl (q0w HT_.out HW_.out (by kernel_rfl)) (fun _ _ _ h => h) (Or.inl ⟨by rfl, ?_⟩) hHeld ?_ ?_
  rotate_left
  ·rintro w' ⟨s0, s1⟩
   go_simp
   with_reducible rfl
  rotate_left
  ·simp only [Act.put, qa17, qb17, qc17, i64_w, i32_w]
   rfl
  refine take_ (i := 1) (N := some 42) (v := ?_) (a' := ?_) #[true, true, false, false, false, false, false, false, false, false, false] rfl rfl (q0w HT_.out HW_.out (by kernel_rfl)) (fun _ _ _ h => h) (Or.inl ⟨by rfl, ?_⟩) hHeld ?_ ?_
  rotate_left
  ·rintro w' ⟨s0, s1⟩
   go_simp
   with_reducible rfl
  rotate_left
  ·simp only [Act.put, qa17, qb17, qc17, i64_w, i32_w]
   rfl
  refine pure_ (i := 2) (N := some 43) (v := ?_) (a' := ?_) #[true, true, true, false, false, false, false, false, false, false, false] rfl rfl (q0j HT_.out (by kernel_rfl)) (fun _ _ _ h => h) (Or.inl ⟨by rfl, ?_⟩) ?_ ?_
  rotate_left
  ·intro w'
   go_simp
   with_reducible rfl
  rotate_left
  ·simp only [Act.put, qa17, qb17, qc17, i64_w, i32_w]
   rfl
  refine pure_ (i := 4) (N := some 45) (v := ?_) (a' := ?_) #[true, true, true, false, true, false, false, false, false, false, false] rfl rfl (q0j HT_.out (by kernel_rfl)) (fun _ _ _ h => h) (Or.inl ⟨by rfl, ?_⟩) ?_ ?_
  rotate_left
  ·intro w'
   go_simp
   with_reducible rfl
  rotate_left
  ·simp only [Act.put, qa17, qb17, qc17, i64_w, i32_w]
   rfl
  refine pure_ (i := 6) (N := some 47) (v := ?_) (a' := ?_) #[true, true, true, false, true, false, true, false, false, false, false] rfl rfl (q0j HT_.out (by kernel_rfl)) (fun _ _ _ h => h) (Or.inl ⟨by rfl, ?_⟩) ?_ ?_
  rotate_left
  ·intro w'
   go_simp
   with_reducible rfl
  rotate_left
  ·simp only [Act.put, qa17, qb17, qc17, i64_w, i32_w]
   rfl
  refine take_ (i := 7) (N := some 48) (v := ?_) (a' := ?_) #[true, true, true, false, true, false, true, true, false, false, false] rfl rfl (q0w HT_.out HW_.out (by kernel_rfl)) (fun _ _ _ h => h) (Or.inl ⟨by rfl, ?_⟩) hHeld ?_ ?_
  rotate_left
  ·rintro w' ⟨s0, s1⟩
   go_simp
   with_reducible rfl
  rotate_left
  ·simp only [Act.put, qa17, qb17, qc17, i64_w, i32_w]
   rfl
  refine one_ (i := 3) (N := some 44) #[true, true, true, true, true, false, true, true, false, false, false] rfl rfl (q13 HT_.out (by kernel_rfl)) (by decide) (fun K hK => ?_)
  refine value_ (w1 := wy) (v := v) rfl rfl (by go_simp) ?_
  refine hK.out _ _ ⟨m0, m3⟩ (fun hHeld => ?_)
  clear hK K
  refine norm_ (a' := ?_) ?_ ?_
  rotate_left
  ·show Act.put _ (some 44) _ = _
   simp only [Act.put, qa17, qb17, qc17, i64_w, i32_w]
   rfl
  refine one_ (i := 5) (N := some 46) #[true, true, true, true, true, true, true, true, false, false, false] rfl rfl (q13 HT_.out (by kernel_rfl)) (by decide) (fun K hK => ?_)
  refine q1j rfl (.tmp 44) (.tmp 45) 55 9 rfl w0.heap.size 5 i0 Try.underlying55 Try.underlying9 hi hz0 hz1 hz2 v xs.size (Lib.strCells xs) rfl HV.out.row ts rfl (by unfold maxLen; omega) (by omega) HV.out.low.size ?_
  intro v1 w1 hown1 hg1
  obtain ⟨vA, vn, vc, rfl⟩ := own_slice hown1
  have hcells := HV.out.kept HI.out hg1
  have j0 := hcells.1
  have j3 := hcells.2
  have f1 := (HV.out.out.grown hg1 (fun e => q12 HV.out.row HV.out.out (by decide) e.symm))
  have f2 := (HV.out.lst.grown hg1 (fun e => q12 HV.out.row HV.out.lst (by decide) e.symm))
  have q1 : w1.cell? ⟨b1, 0, none⟩ = some v := (f1.cell 0).trans rfl
  have q2 : w1.cell? ⟨b2, 0, none⟩ = some (.string last) := (f2.cell 0).trans rfl
  have q1f := f1.frozen 0
  have q2f := f2.frozen 0
  have f3 : Blk (w1.setCell ⟨b1, 0, none⟩ (.slice vA vn vc)) b2 9 #[.string last] := f2.far (Ne.symm nb12) _
  have q3 : (w1.setCell ⟨b1, 0, none⟩ (.slice vA vn vc)).cell? ⟨b2, 0, none⟩ = some (.string last) := (f3.cell 0).trans rfl
  have q3f := f3.frozen 0
  have HP := Lib.hid (HV.out.put hown1 hg1 a0_0)
  clear f1 f2 f3
  refine hK.out _ _ ⟨j0, j3⟩ (fun hHeld => ?_)
  clear hK K
  refine norm_ (a' := ?_) ?_ ?_
  rotate_left
  ·show Act.put _ (some 46) _ = _
   simp only [Act.put, qa17, qb17, qc17, i64_w, i32_w]
   rfl
  refine one_ (i := 8) (N := some 49) #[true, true, true, true, true, true, true, true, true, false, false] rfl rfl (q13 HT_.out (by kernel_rfl)) (by decide) (fun K hK => ?_)
  refine value_ (w1 := w1) (v := .pointer (some ⟨b1, 0, none⟩)) rfl rfl (by go_simp) ?_
  refine hK.out _ _ ⟨j0, j3⟩ (fun hHeld => ?_)
  clear hK K
  refine norm_ (a' := ?_) ?_ ?_
  rotate_left
  ·show Act.put _ (some 49) _ = _
   simp only [Act.put, qa17, qb17, qc17, i64_w, i32_w]
   rfl
  refine one_ (i := 9) (N := none) #[true, true, true, true, true, true, true, true, true, true, false] rfl rfl (q13 HT_.out (by kernel_rfl)) (by decide) (fun K hK => ?_)
  refine skip_ (w1 := w1.setCell ⟨b1, 0, none⟩ (.slice vA vn vc)) rfl rfl (by go_simp) ?_
  refine hK.out _ _ ⟨(World.cell?_setCell_other _ _ _ _ (by intro e; injection e with e; exact nb1 e.symm)).trans j0, (World.cell?_setCell_other _ _ _ _ (by intro e; injection e with e; exact nb3 e)).trans j3⟩ (fun hHeld => ?_)
  clear hK K
  refine one_ (i := 10) (N := none) #[true, true, true, true, true, true, true, true, true, true, true] rfl rfl (q13 HT_.out (by kernel_rfl)) (by decide) (fun K hK => ?_)
  refine skip_ (w1 := (w1.setCell ⟨b1, 0, none⟩ (.slice vA vn vc)).setCell ⟨b2, 0, none⟩ (.string a0_0)) rfl rfl (by go_simp) ?_
  refine hK.out _ _ ⟨(World.cell?_setCell_other _ _ _ _ (by intro e; injection e with e; exact nb2 e.symm)).trans hHeld.1, (HP.out.ptr.cell 0).trans rfl⟩ (fun hHeld => ?_)
  clear hK K
  refine done_ (q1u HT_.out (by kernel_rfl)) ?_
  clear m0 m1 m3 q1 q2 q3 q1f q2f q3f j0 j3 hcells
  have HF := HP.out
  rw [← HE2.out] at HF
  clear HP HV HI HW
  show bodyPost _ _ (fun e w' => e = .returned (.tuple #[]) ∧ ∃ v', W3 w0 w' b1 b2 b3 v' (xs ++ B (PBlock.rowEnc (rowOf a0_0 a0_1 a0_2 a0_3) (L last))) a0_0) _ _ _
  simp [bodyPost, results, Try.results80]
  exact ⟨_, HF⟩
end Go.Proofs.Ytaigmemmgjlhgaa.Block
-- BlockB
namespace Go.Proofs.Ytaigmemmgjlhgaa.Block
open Go.RowKit Aid Txt Print Go.Proofs.YtaigmemmgjlhgaaW.PrintWords
theorem writer_any (w0 w : World) (b1 : Nat) (hout : Blk w b1 55 #[.slice none 0 0]) (g1 : w0.heap.size ≤ b1) (low : Below w0.heap.size w0 w) :
  Calls Try.prog 59 #[.pointer (some ⟨b1, 0, none⟩)] w fun e w' => e = .returned (.func (Fn.func 80) #[] #[.pointer (some ⟨w.heap.size + 1, 0, none⟩), .pointer (some ⟨w.heap.size, 0, none⟩)]) ∧ W3 w0 w' b1 (w.heap.size + 1) w.heap.size (.slice none 0 0) ⟨#[]⟩ ⟨#[]⟩ := by
 go_enter Try.func59, Try.ntmps59
 go_wp2_with fail
 go_ret
 refine ⟨rfl, ?_⟩
 generalize hA : w.alloc (.cells #[.pointer (some ⟨b1, 0, none⟩)] 95) = A
 have hs : A.heap.size = w.heap.size + 1 := by rw [← hA]; simp
 have p1 : Blk A b1 55 #[.slice none 0 0] := by rw [← hA]; exact hout.alloc _
 have p3 : Blk A w.heap.size 95 #[.pointer (some ⟨b1, 0, none⟩)] := by rw [← hA]; exact Blk.new w _ _
 have lA : Below w0.heap.size w0 A := by rw [← hA]; exact low.alloc low.size _
 rw [← hs]
 refine ⟨p1.alloc _, Blk.new A _ _, p3.alloc _, ⟨rfl, .inl ⟨rfl, rfl⟩⟩, g1, by have := low.size; omega, low.size, lA.alloc lA.size _⟩
end Go.Proofs.Ytaigmemmgjlhgaa.Block
