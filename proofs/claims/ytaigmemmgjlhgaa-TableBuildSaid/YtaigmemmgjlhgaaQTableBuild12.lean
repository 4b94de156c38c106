/- Texts of this claim, joined by a program of this session (wip/pack.py): Sum, GSum. -/
import Derived.Test.YtaigmemmgjlhgaaProg
import Derived.WalkKit
import Derived.Handy
import Derived.KernelRfl
import Derived.WalkMore
import Derived.Test.YtaigmemmgjlhgaaQTableBuild5
import Derived.Test.YtaigmemmgjlhgaaQTableBuild11
-- Sum
namespace Go.Proofs.Ytaigmemmgjlhgaa.Sum
open Go.RowKit PLink Aid
theorem zs_last (k : Nat) (x : BitVec 32) : PCrc.zs (k + 1) x = PCrc.z (PCrc.zs k x) := PCrc.zs_add k 1 x
theorem and_one (a : BitVec 32) : bits .and .u32 (I a) 1 = I a % 2 := by
 unfold I
 rw [show (1 : Int) = ((1 : Nat) : Int) from rfl, u32_and_nat _ _ a.isLt (by omega), nat_mask1]
 rfl
theorem even_word {a : BitVec 32} (h : a.getLsbD 0 = false) : I a % 2 = 0 := by
 have : ¬ I a % 2 = 1 := fun e => by rw [(odd_word a).1 e] at h; cases h
 have := I_lo a
 omega
theorem z_word_one {a : BitVec 32} (h : a.getLsbD 0 = true) : bits .xor .u32 (I a / 2) 2197175160 = I (PCrc.z a) := by
 have e := shr_word a 1
 rw [show (2 : Int) ^ 1 = 2 from rfl] at e
 unfold PCrc.z
 rw [h, if_pos rfl, e]
 exact xor_lit _ 2197175160 (by omega)
theorem z_word_none {a : BitVec 32} (h : a.getLsbD 0 = false) : I a / 2 = I (PCrc.z a) := by
 have e := shr_word a 1
 rw [show (2 : Int) ^ 1 = 2 from rfl] at e
 unfold PCrc.z
 rw [h, e]
 rfl
set_option maxHeartbeats 1000000 in
theorem more1 (c : UInt8) (r : BitVec 32) (b : Nat) (w : World) (hb : Box w b (.int .u32 (I r))) :
  Calls Try.prog 89 #[.int .u8 (c.toNat : Int), .pointer (some ⟨b, 0, none⟩)] w fun e w' => e = .returned (.tuple #[]) ∧ Box w' b (.int .u32 (I (PCrc.step r c))) ∧ w.grownBy w' (some b) := by
 have hc := hb.cell
 have hf := hb.free
 go_enter Try.func89, Try.ntmps89
 obtain ⟨X, hX⟩ : ∃ X, X = r ^^^ c.toBitVec.setWidth 32 := ⟨_, rfl⟩
 have hx : bits .xor .u32 (I r) ((c.toNat : Int) % 4294967296) = I X := by
  rw [show (c.toNat : Int) % 4294967296 = c.toNat by have := c.toNat_lt; omega, xor_byte, hX]
 have HX := Lib.hid hX
 clear hX
 go_wp2
 go_step3
 go_wp2
 go_step3
 go_wp2
 go_loopw [3] (fun v3 wr => ∃ k : Nat, k ≤ 8 ∧ v3 = .int .i64 k ∧ Box wr b (.int .u32 (I (PCrc.zs k X))) ∧ w.grownBy wr (some b)) (fun v3 _ => 8 - (intOf v3).toNat)
 case atStart => exact ⟨0, by omega, rfl, hb.set_ _, only_set (only_refl w _) (.inl rfl) _⟩
 case round =>
  obtain ⟨k, hk, rfl, hb', hg'⟩ := hrel
  have hc' := hb'.cell
  have hf' := hb'.free
  by_cases h8 : k = 8
  ·subst h8
   go_wp2
   rw [Exit.noGoto_normal]
   go_end0
   have he : PCrc.step r c = PCrc.zs 8 X := by rw [HX.out]; rfl
   exact ⟨rfl, by rw [he]; exact hb', hg'⟩
  ·have h8' : ((k : Int) == 8) = false := by simp; omega
   cases hbit : (PCrc.zs k X).getLsbD 0 with
   | true =>
    have ha : (bits .and .u32 (I (PCrc.zs k X)) 1 != 0) = true := by rw [and_one, (odd_word _).2 hbit]; rfl
    have hz : bits .xor .u32 (I (PCrc.zs k X) / 2) 2197175160 = I (PCrc.zs (k + 1) X) := by rw [zs_last, z_word_one hbit]
    clear hbit
    go_wp2
    go_roundw
    case rel => exact ⟨k + 1, by omega, by go_num, (hb'.set_ _).set_ _, only_set (only_set hg' (.inl rfl) _) (.inl rfl) _⟩
    case measure => simp [intOf]; omega
   | false =>
    have ha : (bits .and .u32 (I (PCrc.zs k X)) 1 != 0) = false := by rw [and_one, even_word hbit]; rfl
    have hz : I (PCrc.zs k X) / 2 = I (PCrc.zs (k + 1) X) := by rw [zs_last, z_word_none hbit]
    clear hbit
    go_wp2
    go_roundw
    case rel => exact ⟨k + 1, by omega, by go_num, hb'.set_ _, only_set hg' (.inl rfl) _⟩
    case measure => simp [intOf]; omega
set_option maxHeartbeats 1000000 in
theorem hash1 (c : UInt8) (r : BitVec 32) (b : Nat) (w : World) (hb : Box w b (.int .u32 (I r))) :
  Calls Try.prog 88 #[.int .u8 (c.toNat : Int), .pointer (some ⟨b, 0, none⟩)] w fun e w' => e = .returned (.tuple #[]) ∧ Box w' b (.int .u32 (I (PCrc.hstep r c))) ∧ w.grownBy w' (some b) := by
 have hc := hb.cell
 have hf := hb.free
 have hx : bits .xor .u32 (I r) ((c.toNat : Int) % 4294967296) = I (r ^^^ c.toBitVec.setWidth 32) := by
  rw [show (c.toNat : Int) % 4294967296 = c.toNat by have := c.toNat_lt; omega, xor_byte]
 have hm : (I (r ^^^ c.toBitVec.setWidth 32) * 16777619) % 4294967296 = I (PCrc.hstep r c) := mul_word _ 16777619
 go_enter Try.func88, Try.ntmps88
 go_wp2
 go_end0
 exact ⟨rfl, hb.set_ _, only_set (only_refl w _) (.inl rfl) _⟩
theorem take_snoc (s : ByteArray) (k : Nat) (h : k < s.size) : s.data.toList.take (k + 1) = s.data.toList.take k ++ [s[k]] := by
 rw [List.take_succ_eq_append_getElem (by simpa using h)]; rfl
theorem each_any (k : Nat) (hE : ∀ args w, (callFunc k args).run Try.prog w = .ok (.enter k args) w) (F : BitVec 32 → UInt8 → BitVec 32) (b : Nat)
  (hk : ∀ (c : UInt8) (r : BitVec 32) (w : World), Box w b (.int .u32 (I r)) → Calls Try.prog k #[.int .u8 (c.toNat : Int), .pointer (some ⟨b, 0, none⟩)] w fun e w' => e = .returned (.tuple #[]) ∧ Box w' b (.int .u32 (I (F r c))) ∧ w.grownBy w' (some b))
  (s : ByteArray) (hs : s.size ≤ 9223372036854775807) (r : BitVec 32) (w : World) (hb : Box w b (.int .u32 (I r))) :
  Calls Try.prog 87 #[.string s, .func (.func k) #[] #[.pointer (some ⟨b, 0, none⟩)]] w fun e w' => e = .returned (.tuple #[]) ∧ Box w' b (.int .u32 (I (s.data.toList.foldl F r))) ∧ w.grownBy w' (some b) := by
 have HK := Lib.hid hk
 clear hk
 go_enter Try.func87, Try.ntmps87
 go_wp2
 go_loopw [7] (fun v7 wr => ∃ i : Nat, i ≤ s.size ∧ v7 = .int .i64 i ∧ Box wr b (.int .u32 (I ((s.data.toList.take i).foldl F r))) ∧ w.grownBy wr (some b)) (fun v7 _ => s.size - (intOf v7).toNat)
 case atStart => exact ⟨0, by omega, rfl, hb, only_refl w _⟩
 case round =>
  obtain ⟨i, hi, rfl, hb', hg'⟩ := hrel
  by_cases hlt : i < s.size
  ·have hts := Lib.hid (take_snoc s i hlt)
   go_wp2_with fail
   refine (HK.out _ _ _ hb').mono ?_
   rintro e w1 ⟨rfl, hb1, hg1⟩
   go_wp2
   go_roundw
   case rel => exact ⟨i + 1, by omega, by go_num, by rw [hts.out, List.foldl_append]; exact hb1, only_trans hg' hg1⟩
   case measure => simp [intOf]; omega
  ·go_wp2
   go_end0
   have : (s.data.toList.take i) = s.data.toList := List.take_of_length_le (by simp; omega)
   rw [this] at hb'
   exact ⟨rfl, hb', hg'⟩
theorem each_more (b : Nat) (s : ByteArray) (hs : s.size ≤ 9223372036854775807) (r : BitVec 32) (w : World) (hb : Box w b (.int .u32 (I r))) :
  Calls Try.prog 87 #[.string s, .func (.func 89) #[] #[.pointer (some ⟨b, 0, none⟩)]] w fun e w' => e = .returned (.tuple #[]) ∧ Box w' b (.int .u32 (I (PCrc.fold r s.data.toList))) ∧ w.grownBy w' (some b) :=
 each_any _ (enters Try.func89 (by kernel_rfl) rfl) PCrc.step b (fun c r w h => more1 c r b w h) s hs r w hb
theorem each_hash (b : Nat) (s : ByteArray) (hs : s.size ≤ 9223372036854775807) (r : BitVec 32) (w : World) (hb : Box w b (.int .u32 (I r))) :
  Calls Try.prog 87 #[.string s, .func (.func 88) #[] #[.pointer (some ⟨b, 0, none⟩)]] w fun e w' => e = .returned (.tuple #[]) ∧ Box w' b (.int .u32 (I (s.data.toList.foldl PCrc.hstep r))) ∧ w.grownBy w' (some b) :=
 each_any _ (enters Try.func88 (by kernel_rfl) rfl) PCrc.hstep b (fun c r w h => hash1 c r b w h) s hs r w hb
theorem not_word' (x : BitVec 32) : bits .xor .u32 IntKind.u32.max (I x) = I (~~~ x) := by
 have e : IntKind.u32.max = I (BitVec.allOnes 32) := rfl
 rw [e, xor_word, BitVec.allOnes_xor]
theorem u32_unsigned : IntKind.u32.signed = false := rfl
set_option maxHeartbeats 400000 in
theorem more_any (r : BitVec 32) (s : ByteArray) (hs : s.size ≤ 9223372036854775807) (w : World) :
  Calls Try.prog 82 #[.int .u32 (I r), .string s] w fun e w' => e = .returned (.int .u32 (I (PCrc.sum r s.data.toList))) ∧ Below w.heap.size w w' := by
 have hsg := u32_unsigned
 have hn := not_word'
 have H0 := Lib.hid (Box.new w (.int .u32 (I (~~~ r))) 52)
 go_enter Try.func82, Try.ntmps82
 go_wp2_with fail
 refine (each_more w.heap.size s hs _ _ H0.out).mono ?_
 rintro e w1 ⟨rfl, hb1, hg1⟩
 have hc := hb1.cell
 have hf := hb1.free
 go_wp2
 go_ret
 exact ⟨rfl, q0x ((Below.refl _ _).alloc (Nat.le_refl _) _) (Nat.le_refl _) hg1⟩
theorem of_any (s : ByteArray) (hs : s.size ≤ 9223372036854775807) (w : World) :
  Calls Try.prog 62 #[.string s] w fun e w' => e = .returned (.int .u32 (I (PCrc.sum 0 s.data.toList))) ∧ Below w.heap.size w w' := by
 go_enter Try.func62, Try.ntmps62
 go_wp2_with fail
 refine (more_any 0 s hs w).mono ?_
 rintro e w1 ⟨rfl, hb1⟩
 go_wp2
 go_ret
 exact ⟨rfl, hb1⟩
def mixes : Nat → BitVec 32 → BitVec 32
 | 0, h => h
 | n + 1, h => PCrc.hmix (mixes n h)
set_option maxHeartbeats 400000 in
theorem hash_any (r : BitVec 32) (s : ByteArray) (hs : s.size ≤ 9223372036854775807) (w : World) :
  Calls Try.prog 77 #[.int .u32 (I r), .string s] w fun e w' => e = .returned (.int .u32 (I (PCrc.hash r s.data.toList))) ∧ Below w.heap.size w w' := by
 have hx : bits .xor .u32 (I r) 2166136261 = I (r ^^^ 2166136261#32) := xor_lit r 2166136261 (by omega)
 have H0 := Lib.hid (Box.new w (.int .u32 (I (r ^^^ 2166136261#32))) 52)
 go_enter Try.func77, Try.ntmps77
 go_wp2_with fail
 refine (each_hash w.heap.size s hs _ _ H0.out).mono ?_
 rintro e w1 ⟨rfl, hb1, hg1⟩
 have hc := hb1.cell
 have hf := hb1.free
 go_wp2
 generalize hH : s.data.toList.foldl PCrc.hstep (r ^^^ 2166136261#32) = H at hb1 hc
 have HH := Lib.hid (show PCrc.hash r s.data.toList = mixes 3 H by rw [← hH]; rfl)
 clear hH
 go_loopw [11] (fun v11 wr => ∃ i : Nat, i ≤ 3 ∧ v11 = .int .i64 i ∧ Box wr w.heap.size (.int .u32 (I (mixes i H))) ∧ Below w.heap.size w wr) (fun v11 _ => 3 - (intOf v11).toNat)
 case atStart => exact ⟨0, by omega, rfl, hb1, q0x ((Below.refl _ _).alloc (Nat.le_refl _) _) (Nat.le_refl _) hg1⟩
 case round =>
  obtain ⟨i, hi, rfl, hb2, hB⟩ := hrel
  have hc2 := hb2.cell
  have hf2 := hb2.free
  have e15 : bits .xor .u32 (I (mixes i H)) (I (mixes i H) / 32768) = I (mixes i H ^^^ mixes i H >>> 15) := by
   have e := shr_word (mixes i H) 15
   rw [show (2 : Int) ^ 15 = 32768 from rfl] at e
   rw [e, xor_word]
  have em : (I (mixes i H ^^^ mixes i H >>> 15) * 739982445) % 4294967296 = I (mixes (i + 1) H) := mul_word _ 739982445
  by_cases hlt : i < 3
  ·go_wp2
   go_roundw
   case rel => exact ⟨i + 1, by omega, by go_num, (hb2.set_ _).set_ _, (hB.setCell (by simp) _).setCell (by simp) _⟩
   case measure => simp [intOf]; omega
  ·obtain rfl : i = 3 := by omega
   go_wp2
   go_ret
   refine ⟨?_, hB⟩
   rw [HH.out]
   rfl
end Go.Proofs.Ytaigmemmgjlhgaa.Sum
-- GSum
namespace Go.Proofs.Ytaigmemmgjlhgaa.Print
open Go.RowKit PLink
def w32 (a : Int) : BitVec 32 := BitVec.ofInt 32 a
theorem I_w32 {a : Int} (h : 0 ≤ a ∧ a ≤ 4294967295) : I (w32 a) = a := I_of h.1 h.2
def sum_More.f (a0 : Int) (a1 : ByteArray) : Option Int := if (0 ≤ a0 ∧ a0 ≤ 4294967295) ∧ a1.size ≤ 9223372036854775807 then some (I (PCrc.sum (w32 a0) a1.data.toList)) else none
theorem sum_More.calls (a0 : Int) (a1 : ByteArray) (r : Int) (w : World) (h : sum_More.f a0 a1 = some r) :
  Calls Try.prog 82 #[.int .u32 a0, .string a1] w fun e w' => e = .returned (.int .u32 r) ∧ Below w.heap.size w w' := by
 unfold sum_More.f at h
 split at h
 ·rename_i hc
  obtain rfl : I (PCrc.sum (w32 a0) a1.data.toList) = r := by simpa using h
  have := Sum.more_any (w32 a0) a1 hc.2 w
  rw [I_w32 hc.1] at this
  exact this
 ·cases h
def sum_Of.f (a0 : ByteArray) : Option Int := if a0.size ≤ 9223372036854775807 then some (I (PCrc.sum 0 a0.data.toList)) else none
theorem sum_Of.calls (a0 : ByteArray) (r : Int) (w : World) (h : sum_Of.f a0 = some r) :
  Calls Try.prog 62 #[.string a0] w fun e w' => e = .returned (.int .u32 r) ∧ Below w.heap.size w w' := by
 unfold sum_Of.f at h
 split at h
 ·rename_i hc
  obtain rfl : I (PCrc.sum 0 a0.data.toList) = r := by simpa using h
  exact Sum.of_any a0 hc w
 ·cases h
def sum_Hash.f (a0 : Int) (a1 : ByteArray) : Option Int := if (0 ≤ a0 ∧ a0 ≤ 4294967295) ∧ a1.size ≤ 9223372036854775807 then some (I (PCrc.hash (w32 a0) a1.data.toList)) else none
theorem sum_Hash.calls (a0 : Int) (a1 : ByteArray) (r : Int) (w : World) (h : sum_Hash.f a0 a1 = some r) :
  Calls Try.prog 77 #[.int .u32 a0, .string a1] w fun e w' => e = .returned (.int .u32 r) ∧ Below w.heap.size w w' := by
 unfold sum_Hash.f at h
 split at h
 ·rename_i hc
  obtain rfl : I (PCrc.hash (w32 a0) a1.data.toList) = r := by simpa using h
  have := Sum.hash_any (w32 a0) a1 hc.2 w
  rw [I_w32 hc.1] at this
  exact this
 ·cases h
end Go.Proofs.Ytaigmemmgjlhgaa.Print
