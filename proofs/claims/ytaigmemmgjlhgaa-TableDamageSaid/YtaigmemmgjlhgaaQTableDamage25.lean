/- Texts of this claim, joined by a program of this session (wip/pack.py): TabDme. -/
import Derived.Lib.ConvBytes
import Derived.Lib.SmallJoins
import Derived.LoopTactic
import Derived.Test.YtaigmemmgjlhgaaQTableDamage23
-- TabDme
namespace Go.Proofs.Ytaigmemmgjlhgaa.Tab
open Go.RowKit Aid Txt Print PLink Block Bits Go.Proofs.YtaigmemmgjlhgaaW.PrintWords
attribute [local go_sem high] eqRow
theorem keys_small3 {l : List S28} {B R Q : Int} (h : Built l B R Q) : ∀ x ∈ l, x.f0.size ≤ 520 := by
 intro x hx
 obtain ⟨_, _, _, _, _, _, _, hc⟩ := q1m h.rt
 have := (PBlock.check_ok (hc (rowS x) (List.mem_map_of_mem hx))).2.2.2.2.2.1
 rwa [show (rowS x).key = L x.f0 from rfl, q0i] at this
theorem q1n {w W : World} (h : Below w.heap.size w W) (j : Nat) (v : Value) : Below w.heap.size w (W.setCell ⟨w.heap.size, j, none⟩ v) := h.setCell (p := ⟨w.heap.size, j, none⟩) (Nat.le_refl _) v
theorem cellUp3 {w w' : World} {p : Addr} {v : Value} (hb : Below w.heap.size w w') (h : w.cell? p = some v) : w'.cell? p = some v := (hb.cell (World.block_lt_of_cell? _ _ h)).trans h
theorem ix_spot2 (hd K i : Nat) (h : K + i ≤ 9223372036854775) (h2 : hd ≤ 300000) : IntKind.i64.wrap ((hd : Int) + IntKind.i64.wrap (((K : Int) + (i : Int)).tdiv 8)) = ((spot hd K i : Nat) : Int) := by
 rw [IntKind.wrap_i64, IntKind.wrap_i64, Int.tdiv_eq_ediv_of_nonneg (by omega)]; unfold spot; omega
set_option maxRecDepth 100000 in
set_option maxHeartbeats 4000000 in
/-- too many rows, no bit, or a table that is refused -/
theorem damage_err (l : List S28) (hl : ∀ x ∈ l, Fit x) (A0 : Option Addr) (c0 : Nat) (B R Q which at_ n : Int) (w : World) (hr0 : Kd.C k28 w A0 l.length l) (hc0 : l.length ≤ c0)
  (hne : 60 < l.length ∨ n = 0 ∨ (tab l B R Q).2 ≠ 0) :
  Calls Try.prog 6 #[.slice A0 l.length c0, .agg #[.int .i64 B, .int .i64 R, .int .i64 Q], .int .i64 which, .int .i64 at_, .int .u32 n] w fun e w' => e = .returned (.bool true) ∧ Below w.heap.size w w' := by
 have PA := Lib.hid (fun w' => awake_any w')
 have HR := Lib.hid hr0
 have HL := Lib.hid hl
 clear hr0 hl
 have hb0 := (Below.refl w.heap.size w).alloc (Nat.le_refl _) (.cells #[.int .i64 B, .int .i64 R, .int .i64 Q] 41)
 have hcase : decide ((60 : Int) < (l.length : Int)) = true ∨ (decide ((60 : Int) < (l.length : Int)) = false ∧ (n == 0) = true) ∨ (decide ((60 : Int) < (l.length : Int)) = false ∧ (n == 0) = false ∧ (tab l B R Q).2 ≠ 0) := by
  by_cases h1 : 60 < l.length
  ·exact .inl (decide_eq_true (by omega))
  ·by_cases h2 : n = 0
   ·exact .inr (.inl ⟨decide_eq_false (by omega), by simp [h2]⟩)
   ·exact .inr (.inr ⟨decide_eq_false (by omega), by simp [h2], by omega⟩)
 clear hne
 rcases hcase with b1 | ⟨b1, b2⟩ | ⟨b1, b2, hne⟩
 ·go_enter Try.func6, Try.ntmps6
  go_wp2_with fail
  refine (PA.out _).mono ?_
  rintro e w1 ⟨rfl, hb1⟩
  go_wp2_with fail
  go_ret
  exact ⟨rfl, q0g hb0 hb1⟩
 ·go_enter Try.func6, Try.ntmps6
  go_wp2_with fail
  refine (PA.out _).mono ?_
  rintro e w1 ⟨rfl, hb1⟩
  go_wp2_with fail
  go_ret
  exact ⟨rfl, q0g hb0 hb1⟩
 ·have hsm : l.length ≤ 60 := by have := of_decide_eq_false b1; omega
  have PB := build_tab (B := B) (R := R) (Q := Q) HL.out (by omega) A0 c0 hc0 _ (Kd.C_below HR.out hb0)
  have m1 : (((tab l B R Q).2 : Int) != 0) = true := by simp [hne]
  generalize (tab l B R Q).2 = er at PB m1
  generalize Txt.B (tab l B R Q).1 = s1 at PB
  have PB := Lib.hid PB
  clear hne
  go_enter Try.func6, Try.ntmps6
  go_wp2_with fail
  refine (PB.out).mono ?_
  rintro e w1 ⟨rfl, hb1⟩
  have hB := q0g hb0 hb1
  clear hb1 hb0
  go_wp2_with fail
  refine (PA.out _).mono ?_
  rintro e w2 ⟨rfl, hb2⟩
  go_wp2_with fail
  go_ret
  exact ⟨rfl, q0g hB hb2⟩
def dropSeq : Nat → Code → Code
 | 0, c => c
 | n + 1, .seq _ b => dropSeq n b
 | _, c => c
noncomputable def dmgTail : Code := dropSeq 14 (Try.f6.body.getD .skip)
set_option maxRecDepth 1000000 in
set_option maxHeartbeats 16000000 in
theorem damage_tail (l : List S28) (A0 : Option Addr) (c0 : Nat) (B R Q : Int) (v : BitVec 32) (s : ByteArray) (fr K : Nat) (w w2 : World) (hsm : l.length ≤ 60) (PA : Hid (∀ w', Calls Try.prog 15 #[] w' fun e w'' => e = .returned (.bool true) ∧ Below w'.heap.size w' w'')) (HR : Hid (Kd.C k28 w A0 l.length l)) (HL : Hid (∀ x ∈ l, Fit x)) (HBT : Hid (Built l B R Q)) (HSS : Hid (s.size = (tab l B R Q).1.length)) (HKS : Hid (∀ x ∈ l, x.f0.size ≤ 520)) (hS7 : s.size ≤ 262144)
    (HT : Hid (HurtT l B R Q (flips (v.toNat : Int) fr K (L s) 32))) (hKs : K ≤ 3000000) (hfr2 : fr ≤ 262144) (hroom : 8 * fr + K + 32 ≤ 8 * s.size) (hB : Below w.heap.size w w2)
    (y1 y2 y3 y5 y6 y7 y8 y9 y10 y12 y13 y14 y17 y18 y19 y20 y21 y22 y23 y24 y25 y26 y27 y28 y29 y30 y31 y32 y33 y34 y35 y36 y37 y38 y39 y40 y41 y42 y43 y44 y45 y46 y47 y48 y49 y50 y51 y52 y53 y54 y55 y56 y57 y58 y59 y60 y61 y62 y63 y64 y65 y66 y67 y68 y69 y70 y71 y72 y73 y74 y75 y76 y77 y78 y79 y80 y81 y82 y83 y84 y85 y86 y87 y88 y89 y90 y91 y92 y93 y94 y95 y96 y97 y98 y99 y100 y101 y102 y103 y104 y105 y106 y107 y108 y109 y110 y111 y112 y113 y114 y115 y116 y117 y118 y119 y120 y121 y122 y123 y124 y125 y126 y127 y128 y129 y130 y131 y132 y133 y134 y135 y136 y137 y138 y139 y140 y141 y142 y143 y144 y145 y146 y147 y148 y149 y150 y151 y152 y153 y154 y155 y156 y157 y158 y159 y160 y161 y162 y163 y164 y165 y166 y167 y168 y169 y170 y171 y172 y173 y174 y175 y176 y177 y178 y179 y180 y181 y182 y183 y184 y185 y186 y187 y188 y189 y190 y191 y192 y193 y194 y195 y196 y197 y198 y199 y200 y201 y202 y203 y204 y205 y206 y207 y208 y209 y210 y211 y212 y213 y214 y215 y216 y217 y218 y219 y220 y221 y222 y223 y224 y225 y226 y227 y228 y229 y230 y231 y232 y233 y234 y235 y236 y237 y238 y239 y240 y241 y242 y243 y244 y245 y246 y247 y248 y249 y250 y251 y252 : Value) :
    Code.wp Try.prog dmgTail (bodyPost Try.prog Try.f6 fun e w' => e = .returned (.bool true) ∧ Below w.heap.size w w') { tmps := #[.slice A0 l.length c0, y1, y2, y3, .int .u32 (v.toNat : Int), y5, y6, y7, y8, y9, y10, .string s, y12, y13, y14, .int .i64 (fr : Int), .int .i64 (K : Int), y17, y18, y19, y20, y21, y22, y23, y24, y25, y26, y27, y28, y29, y30, y31, y32, y33, y34, y35, y36, y37, y38, y39, y40, y41, y42, y43, y44, y45, y46, y47, y48, y49, y50, y51, y52, y53, y54, y55, y56, y57, y58, y59, y60, y61, y62, y63, y64, y65, y66, y67, y68, y69, y70, y71, y72, y73, y74, y75, y76, y77, y78, y79, y80, y81, y82, y83, y84, y85, y86, y87, y88, y89, y90, y91, y92, y93, y94, y95, y96, y97, y98, y99, y100, y101, y102, y103, y104, y105, y106, y107, y108, y109, y110, y111, y112, y113, y114, y115, y116, y117, y118, y119, y120, y121, y122, y123, y124, y125, y126, y127, y128, y129, y130, y131, y132, y133, y134, y135, y136, y137, y138, y139, y140, y141, y142, y143, y144, y145, y146, y147, y148, y149, y150, y151, y152, y153, y154, y155, y156, y157, y158, y159, y160, y161, y162, y163, y164, y165, y166, y167, y168, y169, y170, y171, y172, y173, y174, y175, y176, y177, y178, y179, y180, y181, y182, y183, y184, y185, y186, y187, y188, y189, y190, y191, y192, y193, y194, y195, y196, y197, y198, y199, y200, y201, y202, y203, y204, y205, y206, y207, y208, y209, y210, y211, y212, y213, y214, y215, y216, y217, y218, y219, y220, y221, y222, y223, y224, y225, y226, y227, y228, y229, y230, y231, y232, y233, y234, y235, y236, y237, y238, y239, y240, y241, y242, y243, y244, y245, y246, y247, y248, y249, y250, y251, y252], defers := [] } w2 := by
  conv => arg 2; whnf
  have kb := fun (F : ByteArray) (W : World) => Lib.run_convert_string_bytes (P := Try.prog) W 9 55 5 F Try.underlying9 Try.underlying55 Try.underlying5
  have hn0 : (0 : Int) ≤ (v.toNat : Int) := by omega
  have hn1 : (v.toNat : Int) ≤ 4294967295 := by have := v.isLt; omega
  go_wp2_with fail
  have hB0 := Bts.conv w2 s
  have hW0 : Below w.heap.size w (Lib.bytesWorld w2 5 s) := hB.trans (Go.Joins.below_bytesWorld _ w2 5 s hB.size)
  have hg : w.heap.size ≤ w2.heap.size := hB.size
  generalize grownCap w2 s.size 0 5 = cap
  generalize Lib.bytesWorld w2 5 s = W0 at hB0 hW0 ⊢
  generalize w2.heap.size = g at hB0 hg ⊢
  clear hB
  have HRM := Lib.hid hroom
  clear hroom
  go_loopw [18] (fun v18 wr => ∃ i : Nat, i ≤ 32 ∧ v18 = .int .i64 i ∧ Bts wr g (flips (v.toNat : Int) fr K (L s) i) ∧ Below w.heap.size w wr) (fun v18 _ => 32 - (intOf v18).toNat)
  case atStart => exact ⟨0, by omega, rfl, hB0, hW0⟩
  case round =>
    obtain ⟨i, hi, rfl, hBt2, hW⟩ := hrel
    clear hB0 hW0
    by_cases hi2 : i < 32
    · have t1 : ((i : Int) < 32) = True := eq_true (by omega)
      have t2 : (0 : Int) ≤ (i : Int) := by omega
      have l1 : spot fr K i < s.size := by have := HRM.out; unfold spot; omega
      have gc := hBt2.cell (spot fr K i) (by rw [q12, q0i]; exact l1)
      have gf := hBt2.free (spot fr K i) (by rw [q12, q0i]; exact l1)
      have e0 := ix_sum K i (by omega)
      have e1 := ix_spot2 fr K i (by omega) (by omega)
      have e2 := ix_bit K i
      have e3 := ix_lt K i
      go_wp2_with fail
      · have hbit : (Go.bits .and .u32 ((v.toNat : Int) / 2 ^ i) 1 == 1) = true := by assumption
        go_region
        have hB2 := round_set hn0 hn1 hbit hBt2 (by rw [q0i]; exact l1)
        have hW2 := (hW.setCell (p := ⟨g, spot fr K i, none⟩) hg (.int .u8 (Go.bits .xor .u8 ((flips (v.toNat : Int) fr K (L s) i)[spot fr K i]?.getD 0).toNat (IntKind.u8.wrap (2 ^ bitNo K i))))).drew
        generalize (wr.setCell ⟨g, spot fr K i, none⟩ (.int .u8 (Go.bits .xor .u8 ((flips (v.toNat : Int) fr K (L s) i)[spot fr K i]?.getD 0).toNat (IntKind.u8.wrap (2 ^ bitNo K i))))).drew = W2 at hB2 hW2 ⊢
        clear e0 e1 e2 e3 gc gf
        go_wp2_with fail
        go_roundw
        case rel => exact ⟨i + 1, by omega, by go_num, hB2, hW2⟩
        case measure => simp [intOf]; omega
      · have hbit : (Go.bits .and .u32 ((v.toNat : Int) / 2 ^ i) 1 == 1) = false := by first | assumption | (simp; assumption)
        have hB2 := flips_not fr K (L s) i hn0 hn1 hbit
        rw [← hB2] at hBt2
        go_roundw
        case rel => exact ⟨i + 1, by omega, by go_num, hBt2, hW⟩
        case measure => simp [intOf]; omega
    · have t1 : ((i : Int) < 32) = False := eq_false (by omega)
      obtain rfl : i = 32 := by omega
      have kt := hBt2.text (n := s.size) (by rw [q12, q0i]) cap
      have hfl : (flips (v.toNat : Int) fr K (L s) 32).length = s.size := by rw [q12, q0i]
      have HT2 := HT.out
      generalize flips (v.toNat : Int) fr K (L s) 32 = S' at kt hfl HT2
      have hS6 : S'.length ≤ 262144 := by omega
      have hSl : S'.length = (tab l B R Q).1.length := by have := HSS.out; omega
      have hBt := HBT.out
      have hBt3 := hW
      clear hBt2 HT HRM hS7
      rcases openH hS6 HT2 with PO | ⟨⟨hsh, hbad⟩, PO⟩
      · have PO := Lib.hid PO
        clear HT2 hBt
        go_wp2_with fail
        refine (PO.out _).mono ?_
        rintro e w3 ⟨rfl, hb3⟩
        have hB3 := q0g hBt3 hb3
        clear kt
        go_wp2_with fail
        refine (PA.out _).mono ?_
        rintro e w4 ⟨rfl, hb4⟩
        go_wp2_with fail
        go_ret
        exact ⟨rfl, q0g hB3 hb4⟩
      · have PO := Lib.hid PO
        have PS := Lib.hid (fun w' b (h : LainH w' b l B R Q S') => ScanH hBt hSl hbad h)
        have PG := Lib.hid (fun w' b (h : LainH w' b l B R Q S') => GetH hBt hSl h)
        have HG := Lib.hid (hurt_get hBt hsh)
        clear HT2 hBt hsh hbad
        go_wp2_with fail
        refine (PO.out _).mono ?_
        rintro e w3 ⟨b, rfl, hLa, hb3⟩
        have hB3 := q0g hBt3 hb3
        clear kt hb3 PO
        go_wp2_with fail
        refine (PS.out _ _ hLa).mono ?_
        rintro e w4 ⟨A2, c2, rfl, hb4⟩
        have hB4 := q0g hB3 hb4
        have hLa := hLa.below hb4
        clear hb4 PS hB3 hBt3 hW
        go_wp2_with fail
        go_loopw [23] (fun v23 wr => ∃ i : Nat, i ≤ l.length ∧ v23 = .int .i64 i ∧ Below w.heap.size w wr ∧ LainH wr b l B R Q S') (fun v23 _ => l.length - (intOf v23).toNat)
        case atStart => exact ⟨0, by omega, rfl, hB4, hLa⟩
        case round =>
          obtain ⟨i, hi, rfl, hBr, hLr⟩ := hrel
          clear hB4 hLa
          by_cases hlt : i < l.length
          · have t3 : ((i : Int) < (l.length : Int)) = True := eq_true (by omega)
            obtain ⟨ad, rfl, k0, k1, k2, k3⟩ := q1d (Kd.C_below HR.out hBr) (i : Int) (by omega) (by omega)
            have hmem := List.getElem_mem hlt
            have hx := HL.out _ hmem
            have hks := HKS.out _ hmem
            have hgc := HG.out i hlt
            rw [at_S28 l i hlt, Int.toNat_natCast] at k0 k1 k2 k3
            generalize l[i] = x at k0 k1 k2 k3 hmem hx hks hgc
            obtain ⟨m, hm⟩ : ∃ m : Nat, x.f1 = (m : Int) := ⟨x.f1.toNat, by have := hx.s0; omega⟩
            have e0 : L x.f0 = (rowS x).key := rfl
            have e1 : m = (rowS x).seq := by show m = x.f1.toNat; omega
            rw [hm] at k1
            have PG2 := PG.out
            have GV := fun w' (h : LainH w' b l B R Q S') => PG2 w' b h x hmem (by omega) m
            clear PG2 hmem hks
            rcases hgc with hgr | hgr
            · have hgv : getV (PTable.get hasB ⟨S', filt l Q, prtT l B R⟩ (L x.f0) m) = .tuple #[.agg #[.string x.f0, .int .u64 (m : Int), .int .i64 x.f2, .string x.f3], .bool true, .int .i64 0] := by
                rw [e0, e1, hgr]
                show getV (rowS x, true, 0) = _
                unfold getV
                rw [rowB_rowS x hx]
                simp only [rowV, hm]
                rw [← e1]
                rfl
              clear hgr e0 e1
              have GX := Lib.hid (fun w' (h : LainH w' b l B R Q S') => GV w' h)
              rw [hgv] at GX
              clear hgv GV
              have hb7 := Below.refl wr.heap.size wr
              go_wp2_with fail
              go_region_held3 (fun w' => Below wr.heap.size wr w' ∧ w'.cell? (ad.add (i * 4)) = some (.string x.f0) ∧ w'.cell? ⟨(ad.add (i * 4)).block, (ad.add (i * 4)).off + 1, none⟩ = some (.int .u64 (m : Int))) (refine ⟨?_, cellUp3 ?_ k0, cellUp3 ?_ k1⟩ <;> (repeat (first | (with_reducible first | exact hb7 | apply q02 | apply q00 | apply q01 | apply q1n) | exact hb7))) (first | ((with_reducible refine (GX.out _ (hLr.below (by repeat (first | (with_reducible first | exact hb7 | apply q02 | apply q00 | apply q01) | exact hb7)))).mono ?_); rintro e w7 ⟨rfl, hb8⟩; have hb7 := q0g (by repeat (first | (with_reducible first | exact hb7 | apply q02 | apply q00 | apply q01) | exact hb7)) hb8; (first | (have bx : Blk w7 wr.heap.size 28 #[.string ⟨#[]⟩, .int .u64 0, .int .i64 0, .string ⟨#[]⟩] := (by first | exact Blk.below (Blk.new _ _ _) hb8 (Blk.new _ _ _).lt | exact Blk.below (Blk.new _ _ _).drew hb8 (Blk.new _ _ _).drew.lt | exact Blk.below ((Blk.new _ _ _).drewN _) hb8 ((Blk.new _ _ _).drewN _).lt); have d0 := (bx.cell 0).trans rfl; have d1 := (bx.cell 1).trans rfl; have d2 := (bx.cell 2).trans rfl; have d3 := (bx.cell 3).trans rfl; have f0 := bx.frozen 0; have f1 := bx.frozen 1; have f2 := bx.frozen 2; have f3 := bx.frozen 3; have lx := bx.lt) | skip)))
              all_goals
                first
                  | (have hbl := wrote4 bx (⟨x.f0, (m : Int), x.f2, x.f3⟩ : S28)
                     have hbw := q1n (q1n (q1n (q1n hb7 0 (.string x.f0)) 1 (.int .u64 (m : Int))) 2 (.int .i64 x.f2)) 3 (.string x.f3)
                     dsimp only at hbl
                     clear d0 d1 d2 d3 f0 f1 f2 f3 lx bx
                     generalize (((w7.setCell ⟨wr.heap.size, 0, none⟩ (.string x.f0)).setCell ⟨wr.heap.size, 1, none⟩ (.int .u64 (m : Int))).setCell ⟨wr.heap.size, 2, none⟩ (.int .i64 x.f2)).setCell ⟨wr.heap.size, 3, none⟩ (.string x.f3) = w8 at hbl hbw ⊢
                     generalize wr.heap.size = gg at hbl ⊢)
                  | (have hbl := Blk.new w7 28 #[.string x.f0, .int .u64 (m : Int), .int .i64 x.f2, .string x.f3]
                     have hbw := q02 hb7 (.cells #[.string x.f0, .int .u64 (m : Int), .int .i64 x.f2, .string x.f3] 28)
                     generalize w7.alloc _ = w8 at hbl hbw ⊢
                     generalize w7.heap.size = gg at hbl ⊢)
                have hL8 := hLr.below hbw
                have hBw := q0g hBr hbw
                have k0 := cellUp3 hbw k0
                have k1 := cellUp3 hbw k1
                have k2 := cellUp3 hbw k2
                have k3 := cellUp3 hbw k3
                have d0 := (hbl.cell 0).trans rfl
                have d1 := (hbl.cell 1).trans rfl
                have d2 := (hbl.cell 2).trans rfl
                have d3 := (hbl.cell 3).trans rfl
                clear hbl hbw hb7 hb8 hLr hBr
                go_wp2_with fail
                go_quiet (fail)
                go_wp2_with fail
                go_roundw
                case rel => exact ⟨i + 1, by omega, by go_num, by first | exact hBw | exact hBw.drew | exact q0z hBw _, by first | exact hL8 | exact hL8.below (Below.refl _ _).drew | exact hL8.below (q0z (Below.refl _ _) _)⟩
                case measure => simp [intOf]; omega
            · have hgv : getV (PTable.get hasB ⟨S', filt l Q, prtT l B R⟩ (L x.f0) m) = .tuple #[.agg #[.string ⟨#[]⟩, .int .u64 0, .int .i64 0, .string ⟨#[]⟩], .bool false, .int .i64 10] := by
                rw [e0, e1, hgr]
                rfl
              clear hgr e0 e1
              have GX := Lib.hid (fun w' (h : LainH w' b l B R Q S') => GV w' h)
              rw [hgv] at GX
              clear hgv GV
              have hb7 := Below.refl wr.heap.size wr
              go_wp2_with fail
              go_region_held3 (fun w' => Below wr.heap.size wr w' ∧ w'.cell? (ad.add (i * 4)) = some (.string x.f0) ∧ w'.cell? ⟨(ad.add (i * 4)).block, (ad.add (i * 4)).off + 1, none⟩ = some (.int .u64 (m : Int))) (refine ⟨?_, cellUp3 ?_ k0, cellUp3 ?_ k1⟩ <;> (repeat (first | (with_reducible first | exact hb7 | apply q02 | apply q00 | apply q01 | apply q1n) | exact hb7))) (first | ((with_reducible refine (GX.out _ (hLr.below (by repeat (first | (with_reducible first | exact hb7 | apply q02 | apply q00 | apply q01) | exact hb7)))).mono ?_); rintro e w7 ⟨rfl, hb8⟩; have hb7 := q0g (by repeat (first | (with_reducible first | exact hb7 | apply q02 | apply q00 | apply q01) | exact hb7)) hb8; (first | (have bx : Blk w7 wr.heap.size 28 #[.string ⟨#[]⟩, .int .u64 0, .int .i64 0, .string ⟨#[]⟩] := (by first | exact Blk.below (Blk.new _ _ _) hb8 (Blk.new _ _ _).lt | exact Blk.below (Blk.new _ _ _).drew hb8 (Blk.new _ _ _).drew.lt | exact Blk.below ((Blk.new _ _ _).drewN _) hb8 ((Blk.new _ _ _).drewN _).lt); have d0 := (bx.cell 0).trans rfl; have d1 := (bx.cell 1).trans rfl; have d2 := (bx.cell 2).trans rfl; have d3 := (bx.cell 3).trans rfl; have f0 := bx.frozen 0; have f1 := bx.frozen 1; have f2 := bx.frozen 2; have f3 := bx.frozen 3; have lx := bx.lt) | skip)))
              all_goals
                first
                  | (have hbl := wrote4 bx (⟨(⟨#[]⟩ : ByteArray), 0, 0, (⟨#[]⟩ : ByteArray)⟩ : S28)
                     have hbw := q1n (q1n (q1n (q1n hb7 0 (.string (⟨#[]⟩ : ByteArray))) 1 (.int .u64 0)) 2 (.int .i64 0)) 3 (.string (⟨#[]⟩ : ByteArray))
                     dsimp only at hbl
                     clear d0 d1 d2 d3 f0 f1 f2 f3 lx bx
                     generalize (((w7.setCell ⟨wr.heap.size, 0, none⟩ (.string (⟨#[]⟩ : ByteArray))).setCell ⟨wr.heap.size, 1, none⟩ (.int .u64 0)).setCell ⟨wr.heap.size, 2, none⟩ (.int .i64 0)).setCell ⟨wr.heap.size, 3, none⟩ (.string (⟨#[]⟩ : ByteArray)) = w8 at hbl hbw ⊢
                     generalize wr.heap.size = gg at hbl ⊢)
                  | (have hbl := Blk.new w7 28 #[.string (⟨#[]⟩ : ByteArray), .int .u64 0, .int .i64 0, .string (⟨#[]⟩ : ByteArray)]
                     have hbw := q02 hb7 (.cells #[.string (⟨#[]⟩ : ByteArray), .int .u64 0, .int .i64 0, .string (⟨#[]⟩ : ByteArray)] 28)
                     generalize w7.alloc _ = w8 at hbl hbw ⊢
                     generalize w7.heap.size = gg at hbl ⊢)
                have hL8 := hLr.below hbw
                have hBw := q0g hBr hbw
                have k0 := cellUp3 hbw k0
                have k1 := cellUp3 hbw k1
                have k2 := cellUp3 hbw k2
                have k3 := cellUp3 hbw k3
                have d0 := (hbl.cell 0).trans rfl
                have d1 := (hbl.cell 1).trans rfl
                have d2 := (hbl.cell 2).trans rfl
                have d3 := (hbl.cell 3).trans rfl
                clear hbl hbw hb7 hb8 hLr hBr
                go_wp2_with fail
                go_quiet (fail)
                go_wp2_with fail
                go_roundw
                case rel => exact ⟨i + 1, by omega, by go_num, by first | exact hBw | exact hBw.drew | exact q0z hBw _, by first | exact hL8 | exact hL8.below (Below.refl _ _).drew | exact hL8.below (q0z (Below.refl _ _) _)⟩
                case measure => simp [intOf]; omega
          · have t3 : ((i : Int) < (l.length : Int)) = False := eq_false (by omega)
            obtain rfl : i = l.length := by omega
            go_wp2_with fail
            refine (PA.out _).mono ?_
            rintro e w5 ⟨rfl, hb5⟩
            go_wp2_with fail
            go_ret
            exact ⟨rfl, q0g hBr hb5⟩
end Go.Proofs.Ytaigmemmgjlhgaa.Tab
