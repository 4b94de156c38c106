/- Texts of this claim, joined by a program of this session (wip/pack.py): TabDmg. -/
import Derived.Deep.DeepCutAuto
import Derived.Lib.ConvBytes
import Derived.Lib.SmallJoins
import Derived.LoopTactic
import Derived.Test.YtaigmemmgjlhgaaQTableDamage25
-- TabDmg
namespace Go.Proofs.Ytaigmemmgjlhgaa.Tab
open Go.RowKit Aid Txt Print PLink Block Bits Go.Proofs.YtaigmemmgjlhgaaW.PrintWords
attribute [local go_sem high] eqRow
set_option maxRecDepth 100000 in
set_option maxHeartbeats 16000000 in
theorem damage_ok (l : List S28) (hl : ∀ x ∈ l, Fit x) (A0 : Option Addr) (c0 : Nat) (B R Q which at_ : Int) (v : BitVec 32) (hv : v ≠ 0) (hw1 : -9223372036854775808 ≤ which) (hw2 : which ≤ 9223372036854775807) (ha1 : -9223372036854775808 ≤ at_) (ha2 : at_ ≤ 9223372036854775807) (w : World) (hr0 : Kd.C k28 w A0 l.length l) (hc0 : l.length ≤ c0)
  (hsm : l.length ≤ 60) (hBt : Built l B R Q) :
  Calls Try.prog 6 #[.slice A0 l.length c0, .agg #[.int .i64 B, .int .i64 R, .int .i64 Q], .int .i64 which, .int .i64 at_, .int .u32 (v.toNat : Int)] w fun e w' => e = .returned (.bool true) ∧ Below w.heap.size w w' := by
 have PA := Lib.hid (fun w' => awake_any w')
 have HR := Lib.hid hr0
 have HL := Lib.hid hl
 clear hr0 hl
 have hb0 := (Below.refl w.heap.size w).alloc (Nat.le_refl _) (.cells #[.int .i64 B, .int .i64 R, .int .i64 Q] 41)
 have b1 : decide ((60 : Int) < (l.length : Int)) = false := decide_eq_false (by omega)
 have b2 : ((v.toNat : Int) == 0) = false := by
  refine beq_false_of_ne fun e => hv ?_
  exact BitVec.eq_of_toNat_eq (by simp; omega)
 have PB := build_tab (B := B) (R := R) (Q := Q) HL.out (by omega) A0 c0 hc0 _ (Kd.C_below HR.out hb0)
 rw [hBt.ok] at PB
 have PB := Lib.hid PB
 obtain ⟨FT, hft, hform⟩ := hBt.form
 have hS6 : (tab l B R Q).1.length ≤ 262144 := hBt.size
 have hlds : (ldsT l B R Q).length ≤ 100000 := by
  have h1 := hBt.parts_few
  unfold tabT at h1
  dsimp only at h1
  rw [PTable.partsW_length] at h1
  show (PTable.loads _ _ _).length ≤ _
  unfold PTable.loads
  rw [List.length_append, List.length_map]
  simp
  omega
 have PE := Lib.hid (fun w' => ends_any (Txt.B (tab l B R Q).1) (ldsT l B R Q) FT (by rw [L_B]; exact hform) hft (loads_small hBt) (by rw [q0o]; exact hS6) hlds w')
 have hSP := fun k hk => spots hBt v hv k hk
 have hN2 : 3 ≤ (endsF 0 (ldsT l B R Q) ++ [(tab l B R Q).1.length]).length := by
  have := lds_two (l := l) (B := B) (R := R) (Q := Q)
  rw [List.length_append, q17, List.length_singleton]
  omega
 have hN3 : (endsF 0 (ldsT l B R Q) ++ [(tab l B R Q).1.length]).length ≤ 100001 := by
  rw [List.length_append, q17, List.length_singleton]
  omega
 have hlastC : (endsF 0 (ldsT l B R Q) ++ [(tab l B R Q).1.length]).getD ((endsF 0 (ldsT l B R Q) ++ [(tab l B R Q).1.length]).length - 1) 0 = (Txt.B (tab l B R Q).1).size := by
  rw [List.length_append, List.length_singleton, Nat.add_sub_cancel, q0o]
  apply getD_of
  rw [List.getElem?_append_right (Nat.le_refl _), Nat.sub_self]
  rfl
 rw [q0o] at PE
 have hS7 : (Txt.B (tab l B R Q).1).size ≤ 262144 := by rw [q0o]; exact hS6
 have hss : (Txt.B (tab l B R Q).1).size = (tab l B R Q).1.length := q0o _
 have hks := keys_small3 hBt
 have hLS : L (Txt.B (tab l B R Q).1) = (tab l B R Q).1 := rfl
 have hSP2 : ∀ k, k < (endsF 0 (ldsT l B R Q) ++ [(tab l B R Q).1.length]).length → ∃ st fr en, Spot (endsF 0 (ldsT l B R Q) ++ [(tab l B R Q).1.length]) (Txt.B (tab l B R Q).1) (fun fr K => HurtT l B R Q (flips (v.toNat : Int) fr K (L (Txt.B (tab l B R Q).1)) 32)) k st fr en := hSP
 generalize endsF 0 (ldsT l B R Q) ++ [(tab l B R Q).1.length] = C at PE hSP2 hN2 hN3 hlastC
 generalize Txt.B (tab l B R Q).1 = s at PB PE hSP2 hlastC hS7 hss
 have HSS := Lib.hid hss
 have HKS := Lib.hid hks
 clear hss hks
 clear hSP hLS hform hft hlds hS6
 have SP := Lib.hid hSP2
 have HLC := Lib.hid hlastC
 have HBT := Lib.hid hBt
 clear hSP2 hlastC hBt
 go_enter Try.func6, Try.ntmps6
 go_wp2_with fail
 refine (PB.out).mono ?_
 rintro e w1 ⟨rfl, hb1⟩
 have hB := q0g hb0 hb1
 clear hb1 hb0 PB
 go_wp2_with fail
 refine (PE.out _).mono ?_
 rintro e w2 ⟨u, rfl, hRu, hb2⟩
 have hB := q0g hB hb2
 obtain ⟨A1, c1, rfl, hc1, hC1⟩ := Kd.R_reads hRu
 have hnl : (nums C).length = C.length := List.length_map _
 rw [hnl] at hc1 hC1 hRu ⊢
 have hcell : ∀ i, i < C.length → ∃ ad, A1 = some ad ∧ w2.cell? (ad.add i) = some (.int .i64 ((C.getD i 0 : Nat) : Int)) := fun i hi => by
  obtain ⟨ad, h1, h2⟩ := ints_get hC1 i (by rw [hnl]; exact hi)
  rw [nums_get C i hi] at h2
  exact ⟨ad, h1, h2⟩
 obtain ⟨ad, rfl, kl⟩ := hcell (C.length - 1) (by omega)
 rw [HLC.out] at kl
 have hcell2 : ∀ i, i < C.length → w2.cell? (ad.add i) = some (.int .i64 ((C.getD i 0 : Nat) : Int)) := fun i hi => by
  obtain ⟨ad', h1, h2⟩ := hcell i hi
  injection h1 with h1
  rw [h1]
  exact h2
 have CE := Lib.hid hcell2
 clear hb2 PE hcell hcell2 hC1 hRu hc1 hnl
 have n1 : ((C.length : Int) == 0) = false := beq_false_of_ne (by omega)
 have n2 : IntKind.i64.wrap ((C.length : Int) - 1) = ((C.length - 1 : Nat) : Int) := by rw [show (C.length : Int) - 1 = ((C.length - 1 : Nat) : Int) by omega]; exact IntWalk.i64_in _ (by omega)
 obtain ⟨N, hN⟩ : ∃ N, C.length - 1 = N := ⟨_, rfl⟩
 rw [hN] at n2 kl
 have n3 : (0 : Int) ≤ (N : Int) := by omega
 have n4 : (N : Int) < (C.length : Int) := by omega
 have HN := Lib.hid hN
 clear hN
 generalize hM : C.length = M at *
 go_upto_region 10 with fail
 go_cut [68] (fun c wx => (∃ bb : Bool, c = .bool bb ∧ bb = decide (which < 0 ∨ (M : Int) ≤ which)) ∧ wx = w2)
 case first =>
  by_cases h1 : which < 0
  ·have t1 : decide (which < 0) = true := decide_eq_true h1
   go_wp2_with fail
   go_meet
   exact ⟨⟨_, rfl, (decide_eq_true (.inl h1)).symm⟩, rfl⟩
  ·have t1 : decide (which < 0) = false := decide_eq_false h1
   by_cases h2 : (M : Int) ≤ which
   ·have t2 : decide ((M : Int) ≤ which) = true := decide_eq_true h2
    go_wp2_with fail
    go_meet
    exact ⟨⟨_, rfl, (decide_eq_true (.inr h2)).symm⟩, rfl⟩
   ·have t2 : decide ((M : Int) ≤ which) = false := decide_eq_false h2
    go_wp2_with fail
    go_meet
    exact ⟨⟨_, rfl, (decide_eq_false (by omega)).symm⟩, rfl⟩
 case rest =>
 obtain ⟨⟨bb, rfl, hbb⟩, hwc⟩ := hcut
 subst wc
 have HBB := Lib.hid hbb
 clear hbb
 go_upto_if 68 with fail
 go_cut [14] (fun c wx => (∃ k : Nat, k < M ∧ c = .int .i64 k) ∧ wx = w2)
 case first =>
  cases bb with
  | true =>
   go_wp2_with fail
   go_meet
   exact ⟨⟨N, by omega, rfl⟩, rfl⟩
  | false =>
   have h1 := of_decide_eq_false HBB.out.symm
   go_wp2_with fail
   go_meet
   exact ⟨⟨which.toNat, by omega, congrArg (Value.int .i64) (by omega)⟩, rfl⟩
 case rest =>
 obtain ⟨⟨k, hk, rfl⟩, hwc⟩ := hcut
 subst wc
 obtain ⟨st, fr, en, hsp⟩ := SP.out k hk
 have hen := hsp.en_
 have hroom := hsp.room
 have htop := hsp.top
 have hle := hsp.le
 have ken := CE.out k hk
 rw [hen] at ken
 go_upto_if 73 with fail
 go_cut [15] (fun c wx => c = .int .i64 (st : Int) ∧ wx = w2)
 case first =>
  by_cases h0 : k = 0
  ·have := hsp.st0 h0
   subst h0
   subst this
   go_wp2_with fail
   go_meet
   exact ⟨rfl, rfl⟩
  ·have hst := hsp.st_ (by omega)
   have kst := CE.out (k - 1) (by omega)
   rw [hst] at kst
   have t1 : decide ((0 : Int) < (k : Int)) = true := decide_eq_true (by omega)
   have t3 : (0 < k) = True := eq_true (by omega)
   have t2 : IntKind.i64.wrap ((k : Int) - 1) = ((k - 1 : Nat) : Int) := by rw [show (k : Int) - 1 = ((k - 1 : Nat) : Int) by omega]; exact IntWalk.i64_in _ (by omega)
   generalize k - 1 = k1 at kst t2
   have y1 : (0 : Int) ≤ (k1 : Int) := by omega
   have y2 : (k1 : Int) < (M : Int) := by have := IntKind.wrap_i64 ((k : Int) - 1); omega
   go_wp2_with fail
   go_meet
   exact ⟨rfl, rfl⟩
 case rest =>
 obtain ⟨rfl, hwc⟩ := hcut
 subst wc
 go_upto_if 83 with fail
 obtain ⟨bb, hbb⟩ : ∃ bb, decide (k < N) = bb := ⟨_, rfl⟩
 rw [hbb]
 have HBB := Lib.hid hbb
 clear hbb
 go_cut [15] (fun c wx => c = .int .i64 (fr : Int) ∧ wx = w2)
 case first =>
  cases bb with
  | true =>
   have hl : k + 1 < M := by have := of_decide_eq_true HBB.out; have := HN.out; omega
   obtain ⟨h, hfr, hj, hy⟩ := hsp.head (by rw [hM]; exact hl)
   have HJ := Lib.hid hj
   have HY := Lib.hid hy
   clear hj hy
   go_wp2_with fail
   go_loop [15] (fun v15 => ∃ j : Nat, j ≤ h ∧ v15 = .int .i64 ((st + j : Nat) : Int)) (fun v15 => st + h + 1 - (intOf v15).toNat)
   case atStart => exact ⟨0, by omega, rfl⟩
   case round =>
    obtain ⟨j, hjh, rfl⟩ := hrel
    obtain ⟨x, hx⟩ : ∃ x, st + j = x := ⟨_, rfl⟩
    rw [hx]
    have z1 : decide ((x : Int) < (s.size : Int)) = true := decide_eq_true (by omega)
    have z2 : decide (x < s.size) = true := decide_eq_true (by omega)
    have z3 : (x : Int) < (s.size : Int) := by omega
    have z4 : (0 : Int) ≤ (x : Int) := by omega
    have z5 : x < s.size := by omega
    by_cases hjl : j < h
    ·obtain ⟨c, hc, by0⟩ := HJ.out j hjl
     have t3 : decide ((128 : Int) ≤ (c : Int)) = true := decide_eq_true (by omega)
     have t4 : decide (128 ≤ c) = true := decide_eq_true (by omega)
     have t5 : (128 ≤ c) = True := eq_true hc
     simp only [hx] at by0
     go_wp2_with fail
     go_round
     case rel => exact ⟨j + 1, by omega, congrArg (Value.int .i64) (by omega)⟩
     case measure => simp only [intOf]; omega
    ·obtain ⟨c, hc, by0⟩ := HY.out
     have t3 : decide ((128 : Int) ≤ (c : Int)) = false := decide_eq_false (by omega)
     have t4 : decide (128 ≤ c) = false := decide_eq_false (by omega)
     have t5 : (128 ≤ c) = False := eq_false (by omega)
     obtain rfl : j = h := by omega
     simp only [hx] at by0
     go_wp2_with fail
     go_meet
     exact ⟨congrArg (Value.int .i64) (by omega), rfl⟩
  | false =>
   have hl : ¬ k + 1 < M := by have := of_decide_eq_false HBB.out; have := HN.out; omega
   have hfr := hsp.foot (by omega)
   go_wp2_with fail
   go_meet
   exact ⟨congrArg (Value.int .i64) (by omega), rfl⟩
 case rest =>
 obtain ⟨rfl, hwc⟩ := hcut
 subst wc
 obtain ⟨D, hD⟩ : ∃ D, en - fr = D := ⟨_, rfl⟩
 have x1 : IntKind.i64.wrap ((en : Int) - (fr : Int)) = (D : Int) := by rw [show (en : Int) - (fr : Int) = (D : Int) by omega]; exact IntWalk.i64_in _ (by omega)
 have x2 : decide ((D : Int) < 4) = false := decide_eq_false (by omega)
 have x3 : decide ((s.size : Int) < (en : Int)) = false := decide_eq_false (by omega)
 have x6 : decide (s.size < en) = false := decide_eq_false (by omega)
 have x4 : (0 : Int) ≤ (k : Int) := by omega
 have x5 : (k : Int) < (M : Int) := by omega
 obtain ⟨E, hE⟩ : ∃ E, 8 * D - 32 = E := ⟨_, rfl⟩
 have x7 : IntKind.i64.wrap ((D : Int) * 8) = ((8 * D : Nat) : Int) := by rw [show (D : Int) * 8 = ((8 * D : Nat) : Int) by omega]; exact IntWalk.i64_in _ (by omega)
 have x8 : IntKind.i64.wrap (((8 * D : Nat) : Int) - 32) = (E : Int) := by rw [show ((8 * D : Nat) : Int) - 32 = (E : Int) by omega]; exact IntWalk.i64_in _ (by omega)
 have TURN := Lib.hid hsp.turn
 have hD4 : 4 ≤ D := by omega
 have hDf : fr + D ≤ s.size := by omega
 have HD := Lib.hid hD
 have HE := Lib.hid hE
 clear hD hE hsp hen hroom htop hle
 generalize h8D : 8 * D = D8 at x7 x8 
 have H8 := Lib.hid h8D
 clear h8D
 go_upto_region 22 with fail
 go_cut [128] from 115 to 128 (fun c wx => (∃ bb : Bool, c = .bool bb ∧ bb = decide (at_ < 0 ∨ (E : Int) < at_)) ∧ wx = w2)
 case first =>
  by_cases h1 : at_ < 0
  ·have t1 : decide (at_ < 0) = true := decide_eq_true h1
   go_wp2_with fail
   go_meet
   exact ⟨⟨_, rfl, (decide_eq_true (.inl h1)).symm⟩, rfl⟩
  ·have t1 : decide (at_ < 0) = false := decide_eq_false h1
   by_cases h2 : (E : Int) < at_
   ·have t2 : decide ((E : Int) < at_) = true := decide_eq_true h2
    go_wp2_with fail
    go_meet
    exact ⟨⟨_, rfl, (decide_eq_true (.inr h2)).symm⟩, rfl⟩
   ·have t2 : decide ((E : Int) < at_) = false := decide_eq_false h2
    go_wp2_with fail
    go_meet
    exact ⟨⟨_, rfl, (decide_eq_false (by omega)).symm⟩, rfl⟩
 case rest =>
 obtain ⟨⟨bb, rfl, hbb⟩, hwc⟩ := hcut
 subst wc
 have HBB := Lib.hid hbb
 clear hbb
 go_upto_if 128 with fail
 go_cut [16] from 129 to 136 (fun c wx => (∃ K : Nat, K ≤ E ∧ c = .int .i64 K) ∧ wx = w2)
 case first =>
  cases bb with
  | true =>
   go_wp2_with fail
   go_meet
   exact ⟨⟨E, by omega, rfl⟩, rfl⟩
  | false =>
   have h1 := of_decide_eq_false HBB.out.symm
   go_wp2_with fail
   go_meet
   exact ⟨⟨at_.toNat, by omega, congrArg (Value.int .i64) (by omega)⟩, rfl⟩
 case rest =>
 obtain ⟨⟨K, hK, rfl⟩, hwc⟩ := hcut
 subst wc
 have hturn := TURN.out K (by have := HD.out; have := HE.out; omega)
 have hfr2 : fr ≤ 262144 := by omega
 have hroom : 8 * fr + K + 32 ≤ 8 * s.size := by have := HE.out; omega
 have hKs : K ≤ 3000000 := by omega
 rename_i K0 a0
 refine a0 _ _ ?_
 exact damage_tail l A0 c0 B R Q v s fr K w w2 hsm PA HR HL HBT HSS HKS hS7 (Lib.hid hturn) hKs hfr2 hroom hB _ _ _ _ _ _ _ _ _ _ _ _ _ _ _ _ _ _ _ _ _ _ _ _ _ _ _ _ _ _ _ _ _ _ _ _ _ _ _ _ _ _ _ _ _ _ _ _ _ _ _ _ _ _ _ _ _ _ _ _ _ _ _ _ _ _ _ _ _ _ _ _ _ _ _ _ _ _ _ _ _ _ _ _ _ _ _ _ _ _ _ _ _ _ _ _ _ _ _ _ _ _ _ _ _ _ _ _ _ _ _ _ _ _ _ _ _ _ _ _ _ _ _ _ _ _ _ _ _ _ _ _ _ _ _ _ _ _ _ _ _ _ _ _ _ _ _ _ _ _ _ _ _ _ _ _ _ _ _ _ _ _ _ _ _ _ _ _ _ _ _ _ _ _ _ _ _ _ _ _ _ _ _ _ _ _ _ _ _ _ _ _ _ _ _ _ _ _ _ _ _ _ _ _ _ _ _ _ _ _ _ _ _ _ _ _ _ _ _ _ _ _ _ _ _ _ _ _ _ _ _ _ _ _ _ _ _ _ _ _ _ _ _ _ _ _ _ _
theorem damage_walk (l : List S28) (hl : ∀ x ∈ l, Fit x) (A0 : Option Addr) (c0 : Nat) (B R Q which at_ n : Int) (hw1 : -9223372036854775808 ≤ which) (hw2 : which ≤ 9223372036854775807) (ha1 : -9223372036854775808 ≤ at_) (ha2 : at_ ≤ 9223372036854775807) (n0 : 0 ≤ n) (n1 : n ≤ 4294967295) (w : World) (hr0 : Kd.C k28 w A0 l.length l) (hc0 : l.length ≤ c0) :
  Calls Try.prog 6 #[.slice A0 l.length c0, .agg #[.int .i64 B, .int .i64 R, .int .i64 Q], .int .i64 which, .int .i64 at_, .int .u32 n] w fun e w' => e = .returned (.bool true) ∧ Below w.heap.size w w' := by
 by_cases h : 60 < l.length ∨ n = 0 ∨ (tab l B R Q).2 ≠ 0
 ·exact damage_err l hl A0 c0 B R Q which at_ n w hr0 hc0 h
 ·obtain ⟨v, hvn⟩ : ∃ v : BitVec 32, (v.toNat : Int) = n := ⟨BitVec.ofNat 32 n.toNat, by rw [BitVec.toNat_ofNat]; omega⟩
  have hs : l.length ≤ 60 := by omega
  have hz : (tab l B R Q).2 = 0 := by omega
  have hv : v ≠ 0 := by
   rintro rfl
   exact h (.inr (.inl hvn.symm))
  subst hvn
  exact damage_ok l hl A0 c0 B R Q which at_ v hv hw1 hw2 ha1 ha2 w hr0 hc0 hs (built_of (by omega) hz)
end Go.Proofs.Ytaigmemmgjlhgaa.Tab
