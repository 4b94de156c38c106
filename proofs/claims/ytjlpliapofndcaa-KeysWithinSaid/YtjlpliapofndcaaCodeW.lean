/- The walks of package code that go by a cursor or an array: Uint, PutOrd, PutText, Text. -/
import Derived.Test.YtjlpliapofndcaaProg
import Derived.Test.YtjlpliapofndcaaPCode
import Derived.Test.YtjlpliapofndcaaAid
import Derived.WalkKit
import Derived.Handy
import Derived.KernelRfl
import Derived.WalkMore
import Derived.ScopeJumps
import Derived.BigQuiet
import Derived.Deep.QuietTactic
import Derived.Laws.BitsAllLaws
namespace Go.Proofs.Ytjlpliapofndcaa.CodeW
open Go.RowKit Aid
/-- a cursor: its bytes, and how far it has come -/
abbrev Cur (w : World) (g : Nat) (s : ByteArray) (i : Nat) : Prop := Blk w g 58 #[.string s, .int .i64 i]
set_option maxHeartbeats 1000000 in
theorem next_some (s : ByteArray) (i : Nat) (hi : i < s.size) (hs : s.size ≤ 9223372036854775806) (g : Nat) (w : World) (hc : Cur w g s i) :
    Calls Try.prog 42 #[.pointer (some ⟨g, 0, none⟩)] w fun e w' => e = .returned (.tuple #[.int .u8 ((s[i]'hi).toNat : Int), .bool true]) ∧ Cur w' g s (i + 1) ∧ w.grownBy w' (some g) := by
  have h0 : w.cell? ⟨g, 0, none⟩ = some (.string s) := hc.cell 0
  have h1 : w.cell? ⟨g, 1, none⟩ = some (.int .i64 i) := hc.cell 1
  have hf := hc.frozen 1
  go_enter Try.func42, Try.ntmps42
  go_wp2
  go_quiet (fail)
  go_wp2
  go_quiet (fail)
  go_wp2
  go_ret2
  refine ⟨rfl, ?_, ?_⟩
  · exact ((hc.drewN _).set_ 1 _).drewN _
  · exact only_drewN (only_set (only_drewN (only_refl w _) _) (.inl rfl) _) _
set_option maxHeartbeats 1000000 in
theorem next_none (s : ByteArray) (g : Nat) (w : World) (hc : Cur w g s s.size) :
    Calls Try.prog 42 #[.pointer (some ⟨g, 0, none⟩)] w fun e w' => e = .returned (.tuple #[.int .u8 0, .bool false]) ∧ Cur w' g s s.size ∧ w.grownBy w' (some g) := by
  have h0 : w.cell? ⟨g, 0, none⟩ = some (.string s) := hc.cell 0
  have h1 : w.cell? ⟨g, 1, none⟩ = some (.int .i64 s.size) := hc.cell 1
  go_enter Try.func42, Try.ntmps42
  go_wp2
  go_quiet (fail)
  go_wp2
  go_ret2
  exact ⟨rfl, hc.drewN _, only_drewN (only_refl w _) _⟩
/-- what has been read so far, and what the rest gives -/
def comb (N k : Nat) (r : Nat × Nat × Nat) : Nat × Nat × Nat := if r.2.2 = 0 then (N + r.1 * 128 ^ k, k + r.2.1, 0) else (0, 0, r.2.2)
theorem pow7 (k : Nat) : 2 ^ (7 * k) = 128 ^ k := by rw [Nat.pow_mul]
theorem pow7_le {k : Nat} (h : k ≤ 8) : 128 ^ k ≤ 72057594037927936 := Nat.le_trans (Nat.pow_le_pow_right (by omega) h) (by omega)
theorem low7 (c k : Nat) (hk : k ≤ 9) (hc : c < 256) (h9 : k = 9 → c ≤ 1) : (c % 128) * 128 ^ k < 18446744073709551616 := by
  by_cases e : k = 9
  · subst e
    have := h9 rfl
    omega
  · have hp := pow7_le (show k ≤ 8 by omega)
    exact Nat.lt_of_le_of_lt (Nat.mul_le_mul (show c % 128 ≤ 127 by omega) hp) (by omega)
theorem or_step (N k c : Nat) (hk : k ≤ 9) (hN : N < 128 ^ k) (hc : c < 256) (h9 : k = 9 → c ≤ 1) :
    bits .or .u64 (N : Int) (IntKind.u64.wrap (IntKind.u64.wrap (bits .and .u8 (c : Int) 127) * 2 ^ (7 * k))) = ((N + (c % 128) * 128 ^ k : Nat) : Int) := by
  have hl := low7 c k hk hc h9
  have hp : 128 ^ k ≤ 9223372036854775808 := Nat.le_trans (Nat.pow_le_pow_right (by omega) hk) (by omega)
  have e1 : bits .and .u8 (c : Int) 127 = ((c % 128 : Nat) : Int) := by
    rw [show (127 : Int) = ((127 : Nat) : Int) from rfl, u8_and_nat _ _ hc (by omega), nat_mask7]
  have e2 : IntKind.u64.wrap ((c % 128 : Nat) : Int) = ((c % 128 : Nat) : Int) := IntWalk.u64_in _ (by omega)
  have e3 : ((c % 128 : Nat) : Int) * 2 ^ (7 * k) = (((c % 128) * 128 ^ k : Nat) : Int) := by
    rw [Int.natCast_mul, ← pow7]; simp
  have e4 : IntKind.u64.wrap (((c % 128) * 128 ^ k : Nat) : Int) = (((c % 128) * 128 ^ k : Nat) : Int) := IntWalk.u64_in _ (by omega)
  rw [e1, e2, e3, e4, u64_or_nat _ _ (by omega) hl, Nat.or_comm, nat_join (7 * k) _ _ (by rw [pow7]; exact Nat.mul_mod_left _ _) (by rw [pow7]; exact hN), Nat.add_comm]
theorem next_at (s : ByteArray) (i : Nat) (c : UInt8) (h : s.data.toList[i]? = some c) (hs : s.size ≤ 9223372036854775806) (g : Nat) (w : World) (hc : Cur w g s i) :
    Calls Try.prog 42 #[.pointer (some ⟨g, 0, none⟩)] w fun e w' => e = .returned (.tuple #[.int .u8 (c.toNat : Int), .bool true]) ∧ Cur w' g s (i + 1) ∧ w.grownBy w' (some g) := by
  obtain ⟨hi, e⟩ := List.getElem?_eq_some_iff.1 h
  have hi' : i < s.size := by simpa using hi
  have := next_some s i hi' hs g w hc
  have e2 : s[i]'hi' = c := e
  rw [e2] at this
  exact this
theorem drop_cons {l : List UInt8} {k : Nat} {c : UInt8} (h : l[k]? = some c) : l.drop k = c :: l.drop (k + 1) := by
  obtain ⟨hi, e⟩ := List.getElem?_eq_some_iff.1 h
  rw [List.drop_eq_getElem_cons hi, e]
theorem comb_go {l : List UInt8} {N k : Nat} {c : UInt8} (h : l[k]? = some c) (h9 : k ≠ 9) (h128 : 128 ≤ c.toNat) : comb N k (PCode.uintAt k (l.drop k)) = comb (N + (c.toNat % 128) * 128 ^ k) (k + 1) (PCode.uintAt (k + 1) (l.drop (k + 1))) := by
  have hc := c.toNat_lt
  rw [drop_cons h, PCode.uintAt, if_neg (by omega), if_neg (by omega)]
  unfold comb
  split
  · rename_i e
    rw [if_pos rfl, Nat.pow_succ]
    simp only [Prod.mk.injEq, and_true]
    refine ⟨?_, by omega⟩
    rw [show c.toNat % 128 = c.toNat - 128 by omega, Nat.add_mul, Nat.mul_assoc, Nat.mul_comm 128]
    omega
  · rfl
theorem comb_short {l : List UInt8} {N k : Nat} (h : l.length = k) : comb N k (PCode.uintAt k (l.drop k)) = (0, 0, 6) := by
  rw [List.drop_of_length_le (by omega)]; rfl
theorem comb_nine {l : List UInt8} {N k : Nat} {c : UInt8} (h : l[k]? = some c) (h9 : k = 9) (h1 : 1 < c.toNat) : comb N k (PCode.uintAt k (l.drop k)) = (0, 0, 7) := by
  rw [drop_cons h, PCode.uintAt, if_pos ⟨h9, h1⟩]; rfl
theorem comb_zero {l : List UInt8} {N k : Nat} {c : UInt8} (h : l[k]? = some c) (h0 : 0 < k) (h1 : c.toNat = 0) : comb N k (PCode.uintAt k (l.drop k)) = (0, 0, 7) := by
  rw [drop_cons h, PCode.uintAt, if_neg (by omega), if_pos (by omega), if_pos ⟨h1, h0⟩]; rfl
theorem comb_ok {l : List UInt8} {N k : Nat} {c : UInt8} (h : l[k]? = some c) (h9 : k = 9 → c.toNat ≤ 1) (h0 : c.toNat = 0 → k = 0) (h1 : c.toNat < 128) : comb N k (PCode.uintAt k (l.drop k)) = (N + (c.toNat % 128) * 128 ^ k, k + 1, 0) := by
  rw [drop_cons h, PCode.uintAt, if_neg (by omega), if_pos h1, if_neg (by omega), show c.toNat % 128 = c.toNat by omega]; rfl
theorem comb_zero_start (l : List UInt8) : PCode.uint l = comb 0 0 (PCode.uintAt 0 (l.drop 0)) := by
  rw [List.drop_zero]
  unfold comb PCode.uint
  rcases PCode.uintAt_err 0 l with h | h | h
  · rw [if_pos h]
    simp only [Nat.zero_add, Nat.pow_zero, Nat.mul_one]
    exact Prod.ext rfl (Prod.ext rfl h)
  · rw [h]; rfl
  · rw [h]; rfl
end Go.Proofs.Ytjlpliapofndcaa.CodeW
