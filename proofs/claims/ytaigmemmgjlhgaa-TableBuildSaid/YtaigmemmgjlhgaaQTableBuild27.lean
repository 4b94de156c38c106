/- Texts of this claim, joined by a program of this session (wip/pack.py): TabRg. -/
import Derived.Test.YtaigmemmgjlhgaaQTableBuild24
import Derived.Test.YtaigmemmgjlhgaaQTableBuild26
-- TabRg
namespace Go.Proofs.Ytaigmemmgjlhgaa.Tab
open Go.RowKit Aid Txt Print PLink Block Bits Go.Proofs.YtaigmemmgjlhgaaW.PrintWords Go.Proofs.YtaigmemmgjlhgaaW.PrintLast Go.Proofs.YtaigmemmgjlhgaaW.PrintMore
set_option linter.unusedVariables false
set_option linter.unusedSimpArgs false
def m77 : S28 := ⟨(⟨#[]⟩ : ByteArray), 0, 77, (⟨#[]⟩ : ByteArray)⟩
def OwnPost (l : List S28) (w : World) (e : Ending) (w' : World) : Prop :=
 ∃ (A : Option Addr) (c : Nat), e = .returned (.slice A l.length c) ∧ l.length + 1 ≤ c ∧ Kd.C k28 w' A (l.length + 1) (l ++ [m77]) ∧ Below w.heap.size w w'
set_option maxHeartbeats 8000000 in
set_option maxRecDepth 100000 in
theorem own_any (l : List S28) (hl : l.length ≤ 1000000) (A0 : Option Addr) (c0 : Nat) (w : World) (hr0 : Kd.C k28 w A0 l.length l) (hc0 : l.length ≤ c0) :
  Calls Try.prog 20 #[.slice A0 l.length c0] w (OwnPost l w) := by
 have hu31 := Try.underlying28
 have HR0 := q04.mk hr0
 have HC0 := q04.mk hc0
 clear hr0 hc0
 have HB := q04.mk (Below.refl w.heap.size w)
 obtain ⟨x0, hx0⟩ : ∃ y_ : List S28, y_ = ([] : List S28) := ⟨_, rfl⟩
 obtain ⟨x1, hx1⟩ : ∃ y_ : List S28, y_ = (x0 ++ l) := ⟨_, rfl⟩
 obtain ⟨x2, hx2⟩ : ∃ y_ : List S28, y_ = (x1 ++ [m77]) := ⟨_, rfl⟩
 have z0 : q04 (x0.length = 0) := ⟨by rw [hx0]; rfl⟩
 have z1 : q04 (x1.length = l.length) := ⟨by rw [hx1, hx0]; rfl⟩
 have z2 : q04 (x2 = l ++ [m77]) := ⟨by rw [hx2, hx1, hx0]; rfl⟩
 have Nx0 := q04.mk hx0
 have Nx1 := q04.mk hx1
 have Nx2 := q04.mk hx2
 clear hx0 hx1 hx2
 go_enter Try.func20, Try.ntmps20
 go_wp2_with (first | ((with_reducible refine q0q (N := 4) rfl ?_); refine Kd.R_lit k28 _ 28 ?hg (N := 4) ?hd (xs := ([] : List S28)) (inner := []) (ok := fun _ => True) (okp := fun _ => True) ?hr ?hp (fun _ hk => hk) trivial (Below.refl _ _) (Nat.le_refl _) (by simp) ?_; (case hd => rfl); (case hg => rfl); (case hr => first | (go_simp; done) | (go_simp; rfl)); (case hp => exact (Reps.none _ _)); intro v163 w6 ho7 hb hg_ hnew_; clear hg_ hnew_; rw [← Nx0.out] at ho7; have HO164 := q04.mk (Kd.R_lower ho7 (q0e HB.out)); have n1_ := q04.mk (q0a HB.out hb); clear HB; have HB := n1_; clear n1_ hb ho7) | ((with_reducible refine q1k (b := .append) (xs := #[.tmp 4, .tmp 5]) rfl ?_); at_builtin; refine Kd.R_append_rows k28 (w0 := w) w.heap.size rfl (.tmp 4) (.tmp 5) 32 28 (.agg #[(.string ⟨#[]⟩), (.int .u64 0), (.int .i64 0), (.string ⟨#[]⟩)]) 48 rfl Try.underlying32 info28 rfl (by decide) (by omega) v163 x0 l _ _ _ (fun _ => True) (fun _ => False) rfl rfl HO164.out (Kd.C_below HR0.out HB.out) (fun _ _ h => h) (fun _ h => h.elim) (fun _ _ => trivial) HB.out (q0e HB.out) (by have := z0.out; omega) ?_; intro v166 w8 ho hb hg hat; rw [← Nx1.out] at ho; clear HB HO164; have HB := q04.mk hb; have HO167 := q04.mk ho; clear ho hb hg hat) | ((with_reducible refine q1k (b := .append) (xs := #[.tmp 7, .tmp 9]) rfl ?_); at_builtin; refine Kd.R_append k28 (w0 := w) w.heap.size rfl (.tmp 7) (.tmp 9) 32 28 (.agg #[(.string ⟨#[]⟩), (.int .u64 0), (.int .i64 0), (.string ⟨#[]⟩)]) 48 rfl Try.underlying32 info28 rfl (by decide) (by omega) v166 x1 m77 [.string (⟨#[]⟩ : ByteArray), .int .u64 0, .int .i64 77, .string (⟨#[]⟩ : ByteArray)] (fun _ => True) (fun _ => False) rfl rfl ?aP (fun _ hk => hk.elim) ?aF ?aO ?aB ?aS ?aL ?_; (case aP => exact k28_mkM _ _ _ m77); (case aB => exact (by repeat (first | (with_reducible first | exact HB.out | apply q02 | apply q00 | apply q01) | exact HB.out))); (case aF => exact (fun _ _ => trivial)); (case aO => exact (by (with_reducible repeat (first | apply Kd.R_alloc | apply Kd.R_drewN | apply Kd.R_drew)); exact HO167.out)); (case aS => exact (q0e (by repeat (first | (with_reducible first | exact HB.out | apply q02 | apply q00 | apply q01) | exact HB.out)))); (case aL => have := z1.out; omega); intro v169 w9 ho hb hg hat; rw [← Nx2.out] at ho; clear HB HO167; have HB := q04.mk hb; obtain ⟨Ao, co, rfl, hco, hCo⟩ := Kd.R_reads ho; have hz2 : x2.length = l.length + 1 := (by rw [z2.out]; simp); have q11 : (l.length : Int) ≤ (x2.length : Int) := (by omega); have q0 : (0 : Int) ≤ (l.length : Int) := (by omega); obtain ⟨i011, hi011, _, hsz11, _⟩ := info_parts info28; have hcut11 := cut_to (P := Try.prog) 32 28 .i64 Try.underlying32 hi011 Ao x2.length co (l.length : Int) q0 q11 hco; rw [Int.toNat_natCast] at hcut11; have HCO := q04.mk hCo; have HCC := q04.mk hco; have HZ2 := q04.mk hz2; clear hi011 hsz11 ho hb hg hat hz2 hco hCo q11))
 go_ret
 have hn : x2.length = l.length + 1 := HZ2.out
 refine ⟨Ao, co, rfl, by rw [← hn]; exact HCC.out, ?_, HB.out⟩
 rw [← hn, ← z2.out]
 exact HCO.out
set_option maxHeartbeats 4000000 in
theorem kept_any (l : List S28) (hl : l.length ≤ 1000000) (A : Option Addr) (c : Nat) (A1 : Option Addr) (c1 : Nat) (w : World) (hC : Kd.C k28 w A (l.length + 1) (l ++ [m77])) (hc : l.length + 1 ≤ c) (hr : Kd.C k28 w A1 l.length l) (hc1 : l.length ≤ c1) :
  Calls Try.prog 22 #[.slice A l.length c, .slice A1 l.length c1] w fun e w' => e = .returned (.bool true) ∧ Below w.heap.size w w' := by
 have hlen : (l ++ [m77]).length = l.length + 1 := by simp
 have hT := Kd.C_take (m := l.length) (xs := l ++ [m77]) (by rw [hlen]; exact hC) (by rw [hlen]; omega)
 rw [List.take_left'  rfl] at hT
 have PS := same_any l (by omega) A c A1 c1 w hT (by omega) hr hc1
 have HC := Lib.hid hC
 clear hT hr hC hlen
 have t1 : (l.length : Int) + 1 ≤ (c : Int) := by omega
 have t2 : decide ((l.length : Int) + 1 ≤ (c : Int)) = true := decide_eq_true t1
 have t3 : (0 : Int) ≤ (l.length : Int) := by omega
 go_enter Try.func22, Try.ntmps22
 go_wp2_with fail
 refine PS.mono ?_
 rintro e w1 ⟨rfl, d1⟩
 have g1 := q0k.below d1
 clear d1 PS
 obtain ⟨ad, rfl, k0, k1, k2, k3⟩ := q15 (Kd.C_below HC.out g1) (l.length : Int) (by omega) (by omega)
 have hm : q0i (l ++ [m77]) (l.length : Int) = m77 := by
  rw [q1h (l ++ [m77]) l.length (by simp)]; simp
 rw [hm, Int.toNat_natCast] at k2
 have k2' : w1.cell? ⟨(ad.add (l.length * 4)).block, (ad.add (l.length * 4)).off + 2, none⟩ = some (.int .i64 77) := k2
 clear k0 k1 k2 k3 hm
 go_wp2_with fail
 go_ret
 exact ⟨rfl, g1⟩
set_option maxHeartbeats 8000000 in
set_option maxRecDepth 100000 in
theorem build_law (l : List S28) (hl : ∀ x ∈ l, Fit x) (A0 : Option Addr) (c0 : Nat) (B R Q : Int) (w : World) (hr0 : Kd.C k28 w A0 l.length l) (hc0 : l.length ≤ c0) :
  Calls Try.prog 5 #[.slice A0 l.length c0, .agg #[.int .i64 B, .int .i64 R, .int .i64 Q]] w fun e w' => e = .returned (.bool true) ∧ Below w.heap.size w w' := by
 have PA := Lib.hid (fun w' => awake_any w')
 have HR := Lib.hid hr0
 have HL := Lib.hid hl
 clear hr0 hl
 have hb0 := (Below.refl w.heap.size w).alloc (Nat.le_refl _) (.cells #[.int .i64 B, .int .i64 R, .int .i64 Q] 41)
 have BX := Blk.new w 41 #[.int .i64 B, .int .i64 R, .int .i64 Q]
 by_cases hbig : 300 < l.length
 ·have t1 : decide ((300 : Int) < (l.length : Int)) = true := decide_eq_true (by omega)
  go_enter Try.func5, Try.ntmps5
  go_wp2_with fail
  refine (PA.out _).mono ?_
  rintro e w1 ⟨rfl, hb1⟩
  go_wp2_with fail
  go_ret
  exact ⟨rfl, q0d hb0 hb1⟩
 have t1 : decide ((300 : Int) < (l.length : Int)) = false := decide_eq_false (by omega)
 have PO := Lib.hid (fun w' hr => own_any l (by omega) A0 c0 w' hr hc0)
 have P1 := fun A c hc w' hr => build_tab (B := B) (R := R) (Q := Q) HL.out (by omega) A c hc w' hr
 have P2 := fun w' hr => rTable_any l HL.out (by omega) A0 c0 hc0 B R Q w' hr
 rw [show PTable.table (l.map rowS) B R Q (Bloom.filter Q.toNat (keysB l l.length)) = tab l B R Q from rfl] at P2
 generalize tab l B R Q = bb at P1 P2
 obtain ⟨bs, be⟩ := bb
 dsimp only at P1 P2
 have PK := Lib.hid (fun A c hc w' hC hr => kept_any l (by omega) A c A0 c0 w' hC hc hr hc0)
 have HP1 := Lib.hid P1
 have HP2 := Lib.hid P2
 clear P1 P2
 go_enter Try.func5, Try.ntmps5
 go_wp2_with fail
 generalize w.alloc _ = W1 at hb0 BX ⊢
 refine (PO.out _ (Kd.C_below HR.out hb0)).mono ?_
 rintro e w1 ⟨A, c, rfl, hc, hC, g1⟩
 have hlen : (l ++ [m77]).length = l.length + 1 := by simp
 have hT := Kd.C_take (m := l.length) (xs := l ++ [m77]) (by rw [hlen]; exact hC) (by rw [hlen]; omega)
 rw [List.take_left' rfl] at hT
 have HC := Lib.hid hC
 have HT := Lib.hid hT
 have B1 := q0d hb0 g1
 have BX1 := BX.below g1 BX.lt
 clear hC hT hlen PO g1 BX hb0
 have o0 := (BX1.cell 0).trans rfl
 have o1 := (BX1.cell 1).trans rfl
 have o2 := (BX1.cell 2).trans rfl
 go_wp2_with fail
 refine (HP1.out A c (by omega) _ HT.out).mono ?_
 rintro e w2 ⟨rfl, g2⟩
 have B2 := q0d B1 g2
 have BX2 := BX1.below g2 BX1.lt
 clear o0 o1 o2
 have o0 := (BX2.cell 0).trans rfl
 have o1 := (BX2.cell 1).trans rfl
 have o2 := (BX2.cell 2).trans rfl
 clear BX1
 go_wp2_with fail
 refine (HP2.out _ (Kd.C_below HR.out B2)).mono ?_
 rintro e w3 ⟨rfl, g3⟩
 have B3 := q0d B2 g3
 have C3 := Kd.C_below (Kd.C_below HC.out g2) g3
 have R3 := Kd.C_below HR.out B3
 clear o0 o1 o2 BX2 g2 g3
 go_wp2_with fail
 refine (PK.out A c hc _ C3 R3).mono ?_
 rintro e w4 ⟨rfl, g4⟩
 go_wp2_with fail
 refine (PA.out _).mono ?_
 rintro e w5 ⟨rfl, g5⟩
 go_wp2_with fail
 go_ret
 exact ⟨rfl, q0d (q0d B3 g4) g5⟩
end Go.Proofs.Ytaigmemmgjlhgaa.Tab
