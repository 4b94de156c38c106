/- Texts of this claim, joined by a program of this session (wip/pack.py): CodeW, GCode. -/
import Derived.Test.YtaigmemmgjlhgaaProg
import Derived.WalkKit
import Derived.Handy
import Derived.KernelRfl
import Derived.WalkMore
import Derived.ScopeJumps
import Derived.BigQuiet
import Derived.Deep.QuietTactic
import Derived.Laws.BitsAllLaws
import Derived.Test.YtaigmemmgjlhgaaQTableBuild4
import Derived.Test.YtaigmemmgjlhgaaQTableBuild5
-- CodeW
namespace Go.Proofs.Ytaigmemmgjlhgaa.CodeW
open Go.RowKit Aid
abbrev Cur (w : World) (g : Nat) (s : ByteArray) (i : Nat) : Prop := Blk w g 115 #[.string s, .int .i64 i]
set_option maxHeartbeats 1000000 in
theorem next_some (s : ByteArray) (i : Nat) (hi : i < s.size) (hs : s.size ≤ 9223372036854775806) (g : Nat) (w : World) (hc : Cur w g s i) :
  Calls Try.prog 83 #[.pointer (some ⟨g, 0, none⟩)] w fun e w' => e = .returned (.tuple #[.int .u8 ((s[i]'hi).toNat : Int), .bool true]) ∧ Cur w' g s (i + 1) ∧ w.grownBy w' (some g) := by
 have h0 : w.cell? ⟨g, 0, none⟩ = some (.string s) := hc.cell 0
 have h1 : w.cell? ⟨g, 1, none⟩ = some (.int .i64 i) := hc.cell 1
 have hf := hc.frozen 1
 go_enter Try.func83, Try.ntmps83
 go_wp2
 go_quiet (fail)
 go_wp2
 go_quiet (fail)
 go_wp2
 go_ret2
 refine ⟨rfl, ?_, ?_⟩
 ·exact ((hc.drewN _).set_ 1 _).drewN _
 ·exact only_drewN (only_set (only_drewN (only_refl w _) _) (.inl rfl) _) _
set_option maxHeartbeats 1000000 in
theorem next_none (s : ByteArray) (g : Nat) (w : World) (hc : Cur w g s s.size) :
  Calls Try.prog 83 #[.pointer (some ⟨g, 0, none⟩)] w fun e w' => e = .returned (.tuple #[.int .u8 0, .bool false]) ∧ Cur w' g s s.size ∧ w.grownBy w' (some g) := by
 have h0 : w.cell? ⟨g, 0, none⟩ = some (.string s) := hc.cell 0
 have h1 : w.cell? ⟨g, 1, none⟩ = some (.int .i64 s.size) := hc.cell 1
 go_enter Try.func83, Try.ntmps83
 go_wp2
 go_quiet (fail)
 go_wp2
 go_ret2
 exact ⟨rfl, hc.drewN _, only_drewN (only_refl w _) _⟩
def comb (N k : Nat) (r : Nat × Nat × Nat) : Nat × Nat × Nat := if r.2.2 = 0 then (N + r.1 * 128 ^ k, k + r.2.1, 0) else (0, 0, r.2.2)
theorem pow7 (k : Nat) : 2 ^ (7 * k) = 128 ^ k := by rw [Nat.pow_mul]
theorem pow7_le {k : Nat} (h : k ≤ 8) : 128 ^ k ≤ 72057594037927936 := Nat.le_trans (Nat.pow_le_pow_right (by omega) h) (by omega)
theorem low7 (c k : Nat) (hk : k ≤ 9) (hc : c < 256) (h9 : k = 9 → c ≤ 1) : (c % 128) * 128 ^ k < 18446744073709551616 := by
 by_cases e : k = 9
 ·subst e
  have := h9 rfl
  omega
 ·have hp := pow7_le (show k ≤ 8 by omega)
  exact Nat.lt_of_le_of_lt (Nat.mul_le_mul (show c % 128 ≤ 127 by omega) hp) (by omega)
theorem or_step (N k c : Nat) (hk : k ≤ 9) (hN : N < 128 ^ k) (hc : c < 256) (h9 : k = 9 → c ≤ 1) :
  bits .or .u64 (N : Int) (IntKind.u64.wrap (IntKind.u64.wrap (bits .and .u8 (c : Int) 127) * 2 ^ (7 * k))) = ((N + (c % 128) * 128 ^ k : Nat) : Int) := by
 have hl := low7 c k hk hc h9
 have hp : 128 ^ k ≤ 9223372036854775808 := Nat.le_trans (Nat.pow_le_pow_right (by omega) hk) (by omega)
 have e1 : bits .and .u8 (c : Int) 127 = ((c % 128 : Nat) : Int) := by
  rw [show (127 : Int) = ((127 : Nat) : Int) from rfl, u8_and_nat _ _ hc (by omega), nat_mask7]
 have e2 : IntKind.u64.wrap ((c % 128 : Nat) : Int) = ((c % 128 : Nat) : Int) := IntWalk.u64_in _ (by omega)
 have e3 : ((c % 128 : Nat) : Int) * 2 ^ (7 * k) = (((c % 128) * 128 ^ k : Nat) : Int) := by
  rw [Int.natCast_mul, ← pow7]; simp
 have e4 : IntKind.u64.wrap (((c % 128) * 128 ^ k : Nat) : Int) = (((c % 128) * 128 ^ k : Nat) : Int) := IntWalk.u64_in _ (by omega)
 rw [e1, e2, e3, e4, u64_or_nat _ _ (by omega) hl, Nat.or_comm, nat_join (7 * k) _ _ (by rw [pow7]; exact Nat.mul_mod_left _ _) (by rw [pow7]; exact hN), Nat.add_comm]
theorem next_at (s : ByteArray) (i : Nat) (c : UInt8) (h : s.data.toList[i]? = some c) (hs : s.size ≤ 9223372036854775806) (g : Nat) (w : World) (hc : Cur w g s i) :
  Calls Try.prog 83 #[.pointer (some ⟨g, 0, none⟩)] w fun e w' => e = .returned (.tuple #[.int .u8 (c.toNat : Int), .bool true]) ∧ Cur w' g s (i + 1) ∧ w.grownBy w' (some g) := by
 obtain ⟨hi, e⟩ := List.getElem?_eq_some_iff.1 h
 have hi' : i < s.size := by simpa using hi
 have := next_some s i hi' hs g w hc
 have e2 : s[i]'hi' = c := e
 rw [e2] at this
 exact this
theorem drop_cons {l : List UInt8} {k : Nat} {c : UInt8} (h : l[k]? = some c) : l.drop k = c :: l.drop (k + 1) := by
 obtain ⟨hi, e⟩ := List.getElem?_eq_some_iff.1 h
 rw [List.drop_eq_getElem_cons hi, e]
theorem comb_go {l : List UInt8} {N k : Nat} {c : UInt8} (h : l[k]? = some c) (h9 : k ≠ 9) (h128 : 128 ≤ c.toNat) : comb N k (PCode.uintAt k (l.drop k)) = comb (N + (c.toNat % 128) * 128 ^ k) (k + 1) (PCode.uintAt (k + 1) (l.drop (k + 1))) := by
 have hc := c.toNat_lt
 rw [drop_cons h, PCode.uintAt, if_neg (by omega), if_neg (by omega)]
 unfold comb
 split
 ·rename_i e
  rw [if_pos rfl, Nat.pow_succ]
  simp only [Prod.mk.injEq, and_true]
  refine ⟨?_, by omega⟩
  rw [show c.toNat % 128 = c.toNat - 128 by omega, Nat.add_mul, Nat.mul_assoc, Nat.mul_comm 128]
  omega
 ·rfl
theorem comb_short {l : List UInt8} {N k : Nat} (h : l.length = k) : comb N k (PCode.uintAt k (l.drop k)) = (0, 0, 6) := by
 rw [List.drop_of_length_le (by omega)]; rfl
theorem comb_nine {l : List UInt8} {N k : Nat} {c : UInt8} (h : l[k]? = some c) (h9 : k = 9) (h1 : 1 < c.toNat) : comb N k (PCode.uintAt k (l.drop k)) = (0, 0, 7) := by
 rw [drop_cons h, PCode.uintAt, if_pos ⟨h9, h1⟩]; rfl
theorem comb_zero {l : List UInt8} {N k : Nat} {c : UInt8} (h : l[k]? = some c) (h0 : 0 < k) (h1 : c.toNat = 0) : comb N k (PCode.uintAt k (l.drop k)) = (0, 0, 7) := by
 rw [drop_cons h, PCode.uintAt, if_neg (by omega), if_pos (by omega), if_pos ⟨h1, h0⟩]; rfl
theorem comb_ok {l : List UInt8} {N k : Nat} {c : UInt8} (h : l[k]? = some c) (h9 : k = 9 → c.toNat ≤ 1) (h0 : c.toNat = 0 → k = 0) (h1 : c.toNat < 128) : comb N k (PCode.uintAt k (l.drop k)) = (N + (c.toNat % 128) * 128 ^ k, k + 1, 0) := by
 rw [drop_cons h, PCode.uintAt, if_neg (by omega), if_pos h1, if_neg (by omega), show c.toNat % 128 = c.toNat by omega]; rfl
theorem comb_zero_start (l : List UInt8) : PCode.uint l = comb 0 0 (PCode.uintAt 0 (l.drop 0)) := by
 rw [List.drop_zero]
 unfold comb PCode.uint
 rcases PCode.uintAt_err 0 l with h | h | h
 ·rw [if_pos h]
  simp only [Nat.zero_add, Nat.pow_zero, Nat.mul_one]
  exact Prod.ext rfl (Prod.ext rfl h)
 ·rw [h]; rfl
 ·rw [h]; rfl
set_option maxRecDepth 100000 in
set_option maxHeartbeats 8000000 in
theorem uint_any (s : ByteArray) (hs : s.size ≤ 9223372036854775806) (w : World) :
  Calls Try.prog 68 #[.string s] w fun e w' => e = .returned (.tuple #[.int .u64 ((PCode.uint s.data.toList).1 : Int), .int .i64 ((PCode.uint s.data.toList).2.1 : Int), .int .i64 ((PCode.uint s.data.toList).2.2 : Int)]) ∧ Below w.heap.size w w' := by
 go_enter Try.func68, Try.ntmps68
 go_wp2
 refine wp_scope_jumps 0 (fun a' w' => ∃ m : Nat, (∃ (u0 u1 u2 u3 u5 u6 u7 u8 u9 u10 u11 u12 u13 u14 u15 u16 u17 u18 u19 u20 u21 u22 u23 u24 u25 u26 u27 u28 u29 u30 u31 u32 u33 u34 u35 u36 u37 u38 u39 u40 u41 u42 u43 u44 u45 u46 u47 u48 : Value), a' = { tmps := #[u0, u1, u2, u3, .int .i64 (m : Int), u5, u6, u7, u8, u9, u10, u11, u12, u13, u14, u15, u16, u17, u18, u19, u20, u21, u22, u23, u24, u25, u26, u27, u28, u29, u30, u31, u32, u33, u34, u35, u36, u37, u38, u39, u40, u41, u42, u43, u44, u45, u46, u47, u48], defers := [] }) ∧ Hid (PCode.uint s.data.toList = (0, 0, m)) ∧ Below w.heap.size w w') (fun _ _ => 0) rfl ?first ?pass
 case pass =>
  rintro a' w' ⟨m, ⟨u0, u1, u2, u3, u5, u6, u7, u8, u9, u10, u11, u12, u13, u14, u15, u16, u17, u18, u19, u20, u21, u22, u23, u24, u25, u26, u27, u28, u29, u30, u31, u32, u33, u34, u35, u36, u37, u38, u39, u40, u41, u42, u43, u44, u45, u46, u47, u48, rfl⟩, HZ, hB⟩
  go_wp2
  simp only [Exit.jump]
  go_ret3
  refine ⟨?_, hB⟩
  rw [HZ.out]
  rfl
 case first =>
 go_wp2
 go_loopw [2, 7, 8, 9] (fun v2 v7 _ _ wr => ∃ k N : Nat, k < 10 ∧ k ≤ s.size ∧ N < 128 ^ k ∧ v2 = .int .u64 N ∧ v7 = .int .i64 ((7 * k : Nat) : Int) ∧ Hid (PCode.uint s.data.toList = comb N k (PCode.uintAt k (s.data.toList.drop k))) ∧ Cur wr w.heap.size s k ∧ Below w.heap.size w wr) (fun _ v7 _ _ _ => 70 - (intOf v7).toNat)
 case atStart => exact ⟨0, 0, by omega, by omega, by omega, rfl, rfl, Lib.hid (comb_zero_start _), Blk.new _ _ _, (Below.refl _ _).alloc (Nat.le_refl _) _⟩
 case round =>
  obtain ⟨k, N, hk, hks, hN, rfl, rfl, HR, hc, hB⟩ := hrel
  have h64 : 7 * k < 64 := by omega
  by_cases hend : k = s.size
  ·subst hend
   go_wp2_with fail
   refine (next_none s _ _ hc).mono ?_
   rintro e w1 ⟨rfl, hc1, hg1⟩
   have HN := Lib.hid hN
   clear hN
   go_wp2
   go_step3
   have hu : PCode.uint s.data.toList = (0, 0, 6) := HR.out.trans (comb_short (by simp))
   exact And.intro rfl ⟨6, ⟨_, _, _, _, _, _, _, _, _, _, _, _, _, _, _, _, _, _, _, _, _, _, _, _, _, _, _, _, _, _, _, _, _, _, _, _, _, _, _, _, _, _, _, _, _, _, _, _, rfl⟩, Lib.hid hu, q0x hB (Nat.le_refl _) hg1⟩
  ·have hlt : k < s.data.toList.length := by simp; omega
   obtain ⟨c, hcv⟩ : ∃ c, s.data.toList[k]? = some c := ⟨_, List.getElem?_eq_getElem hlt⟩
   have hc256 := c.toNat_lt
   have HC := Lib.hid hcv
   clear hcv
   have HN := Lib.hid hN
   clear hN
   have h63 : 7 * k = 63 ∨ 7 * k < 63 := by omega
   rcases h63 with h63 | h63
   ·obtain rfl : k = 9 := by omega
    clear h63
    rcases (show 1 < c.toNat ∨ c.toNat ≤ 1 by omega) with h1 | h1
    ·go_wp2_with fail
     refine (next_at s 9 c HC.out hs _ _ hc).mono ?_
     rintro e w1 ⟨rfl, hc1, hg1⟩
     go_wp2
     go_step3
     go_wp2
     simp only [Exit.jump]
     go_ret3
     refine ⟨?_, q0x hB (Nat.le_refl _) hg1⟩
     rw [HR.out, comb_nine HC.out rfl h1]
     rfl
    ·rcases (show c.toNat = 0 ∨ c.toNat = 1 by omega) with h0 | h0
     ·have H0 := Lib.hid h0
      clear h0
      have hz : ((c.toNat : Int) == 0) = true := by rw [H0.out]; rfl
      have hl1 : (c.toNat : Int) ≤ 1 := by omega
      go_wp2_with fail
      refine (next_at s 9 c HC.out hs _ _ hc).mono ?_
      rintro e w1 ⟨rfl, hc1, hg1⟩
      go_wp2
      go_step3
      go_wp2
      simp only [Exit.jump]
      go_ret3
      refine ⟨?_, q0x hB (Nat.le_refl _) hg1⟩
      rw [HR.out, comb_zero HC.out (by omega) H0.out]
      rfl
     ·have H0 := Lib.hid h0
      clear h0
      have hz : ((c.toNat : Int) == 0) = false := by rw [H0.out]; rfl
      have hl1 : (c.toNat : Int) ≤ 1 := by omega
      have hor := or_step N 9 c.toNat (by omega) HN.out hc256 (fun _ => h1)
      rw [show (2 : Int) ^ (7 * 9) = 9223372036854775808 from rfl] at hor
      obtain ⟨M, hM⟩ : ∃ M, M = N + (c.toNat % 128) * 128 ^ 9 := ⟨_, rfl⟩
      rw [← hM] at hor
      have HM := Lib.hid hM
      clear hM
      go_wp2_with fail
      refine (next_at s 9 c HC.out hs _ _ hc).mono ?_
      rintro e w1 ⟨rfl, hc1, hg1⟩
      have hcell : w1.cell? ⟨w.heap.size, 1, none⟩ = some (.int .i64 ((9 + 1 : Nat) : Int)) := hc1.cell 1
      go_wp2
      go_quiet (fail)
      go_wp2
      simp only [Exit.jump]
      go_ret3
      refine ⟨?_, q0z (q0x hB (Nat.le_refl _) hg1) _⟩
      have hu := HR.out.trans (comb_ok HC.out (fun _ => h1) (fun h => by rw [H0.out] at h; omega) (by omega))
      rw [← HM.out] at hu
      rw [hu]
      rfl
   ·rcases (show 128 ≤ c.toNat ∨ c.toNat < 128 by omega) with h128 | h128
    ·have hor := or_step N k c.toNat (by omega) HN.out hc256 (by omega)
     obtain ⟨M, hM⟩ : ∃ M, M = N + (c.toNat % 128) * 128 ^ k := ⟨_, rfl⟩
     rw [← hM] at hor
     have HM := Lib.hid hM
     clear hM
     go_wp2_with fail
     refine (next_at s k c HC.out hs _ _ hc).mono ?_
     rintro e w1 ⟨rfl, hc1, hg1⟩
     go_wp2
     go_roundw
     case rel =>
      refine ⟨k + 1, M, by omega, by omega, ?_, rfl, by go_num, Lib.hid ?_, hc1, q0x hB (Nat.le_refl _) hg1⟩
      ·rw [HM.out, Nat.pow_succ]
       have := HN.out
       have e : c.toNat % 128 ≤ 127 := by omega
       have := Nat.mul_le_mul_right (128 ^ k) e
       omega
      ·rw [HR.out, comb_go HC.out (by omega) h128, ← HM.out]
     case measure => simp [intOf]; omega
    ·rcases (show (c.toNat = 0 ∧ 0 < k) ∨ (c.toNat = 0 → k = 0) by omega) with ⟨h0, hk0⟩ | h0
     ·have H0 := Lib.hid h0
      clear h0
      have hz : ((c.toNat : Int) == 0) = true := by rw [H0.out]; rfl
      go_wp2_with fail
      refine (next_at s k c HC.out hs _ _ hc).mono ?_
      rintro e w1 ⟨rfl, hc1, hg1⟩
      go_wp2
      go_step3
      go_wp2
      simp only [Exit.jump]
      go_ret3
      refine ⟨?_, q0x hB (Nat.le_refl _) hg1⟩
      rw [HR.out, comb_zero HC.out hk0 H0.out]
      rfl
     ·have hor := or_step N k c.toNat (by omega) HN.out hc256 (by omega)
      obtain ⟨M, hM⟩ : ∃ M, M = N + (c.toNat % 128) * 128 ^ k := ⟨_, rfl⟩
      rw [← hM] at hor
      have HM := Lib.hid hM
      clear hM
      have hu := HR.out.trans (comb_ok HC.out (by omega) h0 h128)
      rw [← HM.out] at hu
      have HU := Lib.hid hu
      clear hu
      rcases (show c.toNat = 0 ∨ 0 < c.toNat by omega) with hz0 | hz0
      ·obtain rfl := h0 hz0
       rw [show (2 : Int) ^ (7 * 0) = 1 from rfl, Int.mul_one] at hor
       have hz : ((c.toNat : Int) == 0) = true := by rw [hz0]; rfl
       clear h0
       have H0 := Lib.hid hz0
       clear hz0
       go_wp2_with fail
       refine (next_at s 0 c HC.out hs _ _ hc).mono ?_
       rintro e w1 ⟨rfl, hc1, hg1⟩
       have hcell : w1.cell? ⟨w.heap.size, 1, none⟩ = some (.int .i64 ((0 + 1 : Nat) : Int)) := hc1.cell 1
       go_wp2
       go_quiet (fail)
       go_wp2
       simp only [Exit.jump]
       go_ret3
       refine ⟨?_, q0z (q0x hB (Nat.le_refl _) hg1) _⟩
       rw [HU.out]
       rfl
      ·have hz : ((c.toNat : Int) == 0) = false := by simp; omega
       clear h0
       go_wp2_with fail
       refine (next_at s k c HC.out hs _ _ hc).mono ?_
       rintro e w1 ⟨rfl, hc1, hg1⟩
       have hcell : w1.cell? ⟨w.heap.size, 1, none⟩ = some (.int .i64 ((k + 1 : Nat) : Int)) := hc1.cell 1
       go_wp2
       go_quiet (fail)
       go_wp2
       simp only [Exit.jump]
       go_ret3
       refine ⟨?_, q0z (q0x hB (Nat.le_refl _) hg1) _⟩
       rw [HU.out]
       rfl
end Go.Proofs.Ytaigmemmgjlhgaa.CodeW
-- GCode
namespace Go.Proofs.Ytaigmemmgjlhgaa.Print
open Go.RowKit
def code_Uint.f (a0 : ByteArray) : Option (Int × Int × Int) := if a0.size ≤ 9223372036854775806 then some (((PCode.uint a0.data.toList).1 : Int), ((PCode.uint a0.data.toList).2.1 : Int), ((PCode.uint a0.data.toList).2.2 : Int)) else none
theorem code_Uint.calls (a0 : ByteArray) (r1 : Int) (r2 : Int) (r3 : Int) (w : World) (h : code_Uint.f a0 = some (r1, r2, r3)) :
  Calls Try.prog 68 #[.string a0] w fun e w' => e = .returned (.tuple #[.int .u64 r1, .int .i64 r2, .int .i64 r3]) ∧ Below w.heap.size w w' := by
 unfold code_Uint.f at h
 split at h
 ·rename_i hc
  simp only [Option.some.injEq, Prod.mk.injEq] at h
  obtain ⟨rfl, rfl, rfl⟩ := h
  exact CodeW.uint_any a0 hc w
 ·cases h
end Go.Proofs.Ytaigmemmgjlhgaa.Print
