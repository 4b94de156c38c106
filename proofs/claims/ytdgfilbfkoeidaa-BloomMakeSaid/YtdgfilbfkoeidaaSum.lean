/- The walks of package sum: the hash, the sum, and what goes from byte to byte. -/
import Derived.Test.YtdgfilbfkoeidaaProg
import Derived.Test.YtdgfilbfkoeidaaPLink
import Derived.WalkKit
import Derived.Handy
import Derived.KernelRfl
import Derived.Test.YtdgfilbfkoeidaaAid
import Derived.WalkMore
namespace Go.Proofs.Ytdgfilbfkoeidaa.Sum
open Go.RowKit PLink Aid
theorem zs_last (k : Nat) (x : BitVec 32) : PCrc.zs (k + 1) x = PCrc.z (PCrc.zs k x) := PCrc.zs_add k 1 x
theorem and_one (a : BitVec 32) : bits .and .u32 (I a) 1 = I a % 2 := by
  unfold I
  rw [show (1 : Int) = ((1 : Nat) : Int) from rfl, u32_and_nat _ _ a.isLt (by omega), nat_mask1]
  rfl
theorem even_word {a : BitVec 32} (h : a.getLsbD 0 = false) : I a % 2 = 0 := by
  have : ¬ I a % 2 = 1 := fun e => by rw [(odd_word a).1 e] at h; cases h
  have := I_lo a
  omega
theorem z_word_one {a : BitVec 32} (h : a.getLsbD 0 = true) : bits .xor .u32 (I a / 2) 2197175160 = I (PCrc.z a) := by
  have e := shr_word a 1
  rw [show (2 : Int) ^ 1 = 2 from rfl] at e
  unfold PCrc.z
  rw [h, if_pos rfl, e]
  exact xor_lit _ 2197175160 (by omega)
theorem z_word_none {a : BitVec 32} (h : a.getLsbD 0 = false) : I a / 2 = I (PCrc.z a) := by
  have e := shr_word a 1
  rw [show (2 : Int) ^ 1 = 2 from rfl] at e
  unfold PCrc.z
  rw [h, e]
  rfl
set_option maxHeartbeats 1000000 in
theorem hash1 (c : UInt8) (r : BitVec 32) (b : Nat) (w : World) (hb : Box w b (.int .u32 (I r))) :
    Calls Try.prog 26 #[.int .u8 (c.toNat : Int), .pointer (some ⟨b, 0, none⟩)] w fun e w' => e = .returned (.tuple #[]) ∧ Box w' b (.int .u32 (I (PCrc.hstep r c))) ∧ w.grownBy w' (some b) := by
  have hc := hb.cell
  have hf := hb.free
  have hx : bits .xor .u32 (I r) ((c.toNat : Int) % 4294967296) = I (r ^^^ c.toBitVec.setWidth 32) := by
    rw [show (c.toNat : Int) % 4294967296 = c.toNat by have := c.toNat_lt; omega, xor_byte]
  have hm : (I (r ^^^ c.toBitVec.setWidth 32) * 16777619) % 4294967296 = I (PCrc.hstep r c) := mul_word _ 16777619
  go_enter Try.func26, Try.ntmps26
  go_wp2
  go_end0
  exact ⟨rfl, hb.set_ _, only_set (only_refl w _) (.inl rfl) _⟩
theorem take_snoc (s : ByteArray) (k : Nat) (h : k < s.size) : s.data.toList.take (k + 1) = s.data.toList.take k ++ [s[k]] := by
  rw [List.take_succ_eq_append_getElem (by simpa using h)]; rfl
/-- what is handed on to each byte, by whatever closure over one word -/
theorem each_any (k : Nat) (hE : ∀ args w, (callFunc k args).run Try.prog w = .ok (.enter k args) w) (F : BitVec 32 → UInt8 → BitVec 32) (b : Nat)
    (hk : ∀ (c : UInt8) (r : BitVec 32) (w : World), Box w b (.int .u32 (I r)) → Calls Try.prog k #[.int .u8 (c.toNat : Int), .pointer (some ⟨b, 0, none⟩)] w fun e w' => e = .returned (.tuple #[]) ∧ Box w' b (.int .u32 (I (F r c))) ∧ w.grownBy w' (some b))
    (s : ByteArray) (hs : s.size ≤ 9223372036854775807) (r : BitVec 32) (w : World) (hb : Box w b (.int .u32 (I r))) :
    Calls Try.prog 25 #[.string s, .func (.func k) #[] #[.pointer (some ⟨b, 0, none⟩)]] w fun e w' => e = .returned (.tuple #[]) ∧ Box w' b (.int .u32 (I (s.data.toList.foldl F r))) ∧ w.grownBy w' (some b) := by
  have HK := Lib.hid hk
  clear hk
  go_enter Try.func25, Try.ntmps25
  go_wp2
  go_loopw [7] (fun v7 wr => ∃ i : Nat, i ≤ s.size ∧ v7 = .int .i64 i ∧ Box wr b (.int .u32 (I ((s.data.toList.take i).foldl F r))) ∧ w.grownBy wr (some b)) (fun v7 _ => s.size - (intOf v7).toNat)
  case atStart => exact ⟨0, by omega, rfl, hb, only_refl w _⟩
  case round =>
    obtain ⟨i, hi, rfl, hb', hg'⟩ := hrel
    by_cases hlt : i < s.size
    · have hts := Lib.hid (take_snoc s i hlt)
      go_wp2_with fail
      refine (HK.out _ _ _ hb').mono ?_
      rintro e w1 ⟨rfl, hb1, hg1⟩
      go_wp2
      go_roundw
      case rel => exact ⟨i + 1, by omega, by go_num, by rw [hts.out, List.foldl_append]; exact hb1, only_trans hg' hg1⟩
      case measure => simp [intOf]; omega
    · go_wp2
      go_end0
      have : (s.data.toList.take i) = s.data.toList := List.take_of_length_le (by simp; omega)
      rw [this] at hb'
      exact ⟨rfl, hb', hg'⟩
theorem each_hash (b : Nat) (s : ByteArray) (hs : s.size ≤ 9223372036854775807) (r : BitVec 32) (w : World) (hb : Box w b (.int .u32 (I r))) :
    Calls Try.prog 25 #[.string s, .func (.func 26) #[] #[.pointer (some ⟨b, 0, none⟩)]] w fun e w' => e = .returned (.tuple #[]) ∧ Box w' b (.int .u32 (I (s.data.toList.foldl PCrc.hstep r))) ∧ w.grownBy w' (some b) :=
  each_any _ (enters Try.func26 (by kernel_rfl) rfl) PCrc.hstep b (fun c r w h => hash1 c r b w h) s hs r w hb
theorem not_word' (x : BitVec 32) : bits .xor .u32 IntKind.u32.max (I x) = I (~~~ x) := by
  have e : IntKind.u32.max = I (BitVec.allOnes 32) := rfl
  rw [e, xor_word, BitVec.allOnes_xor]
theorem u32_unsigned : IntKind.u32.signed = false := rfl
def mixes : Nat → BitVec 32 → BitVec 32
  | 0, h => h
  | n + 1, h => PCrc.hmix (mixes n h)
set_option maxHeartbeats 400000 in
theorem hash_any (r : BitVec 32) (s : ByteArray) (hs : s.size ≤ 9223372036854775807) (w : World) :
    Calls Try.prog 24 #[.int .u32 (I r), .string s] w fun e w' => e = .returned (.int .u32 (I (PCrc.hash r s.data.toList))) ∧ Below w.heap.size w w' := by
  have hx : bits .xor .u32 (I r) 2166136261 = I (r ^^^ 2166136261#32) := xor_lit r 2166136261 (by omega)
  have H0 := Lib.hid (Box.new w (.int .u32 (I (r ^^^ 2166136261#32))) 35)
  go_enter Try.func24, Try.ntmps24
  go_wp2_with fail
  refine (each_hash w.heap.size s hs _ _ H0.out).mono ?_
  rintro e w1 ⟨rfl, hb1, hg1⟩
  have hc := hb1.cell
  have hf := hb1.free
  go_wp2
  generalize hH : s.data.toList.foldl PCrc.hstep (r ^^^ 2166136261#32) = H at hb1 hc
  have HH := Lib.hid (show PCrc.hash r s.data.toList = mixes 3 H by rw [← hH]; rfl)
  clear hH
  go_loopw [11] (fun v11 wr => ∃ i : Nat, i ≤ 3 ∧ v11 = .int .i64 i ∧ Box wr w.heap.size (.int .u32 (I (mixes i H))) ∧ Below w.heap.size w wr) (fun v11 _ => 3 - (intOf v11).toNat)
  case atStart => exact ⟨0, by omega, rfl, hb1, below_of_only ((Below.refl _ _).alloc (Nat.le_refl _) _) (Nat.le_refl _) hg1⟩
  case round =>
    obtain ⟨i, hi, rfl, hb2, hB⟩ := hrel
    have hc2 := hb2.cell
    have hf2 := hb2.free
    have e15 : bits .xor .u32 (I (mixes i H)) (I (mixes i H) / 32768) = I (mixes i H ^^^ mixes i H >>> 15) := by
      have e := shr_word (mixes i H) 15
      rw [show (2 : Int) ^ 15 = 32768 from rfl] at e
      rw [e, xor_word]
    have em : (I (mixes i H ^^^ mixes i H >>> 15) * 739982445) % 4294967296 = I (mixes (i + 1) H) := mul_word _ 739982445
    by_cases hlt : i < 3
    · go_wp2
      go_roundw
      case rel => exact ⟨i + 1, by omega, by go_num, (hb2.set_ _).set_ _, (hB.setCell (by simp) _).setCell (by simp) _⟩
      case measure => simp [intOf]; omega
    · obtain rfl : i = 3 := by omega
      go_wp2
      go_ret
      refine ⟨?_, hB⟩
      rw [HH.out]
      rfl
end Go.Proofs.Ytdgfilbfkoeidaa.Sum
