/- Texts of this claim, joined by a program of this session (wip/pack.py): Print11, TabC, TabB, TabE, TabM, TabR, TabO. -/
import Derived.Deep.RegionHeld3
import Derived.Deep.QuietTactic
import Derived.BigQuiet
import Derived.StillTailTactics
import Derived.Deep.RegionLaw
import Derived.Test.YtaigmemmgjlhgaaQTableBuild6
import Derived.Test.YtaigmemmgjlhgaaQTableBuild8
import Derived.Test.YtaigmemmgjlhgaaQTableBuild9
import Derived.Test.YtaigmemmgjlhgaaQTableBuild12
import Derived.Test.YtaigmemmgjlhgaaQTableBuild14
import Derived.Test.YtaigmemmgjlhgaaQTableBuild15
import Derived.Test.YtaigmemmgjlhgaaQTableBuild18
import Derived.Test.YtaigmemmgjlhgaaQTableBuild20
import Derived.Test.YtaigmemmgjlhgaaQTableBuild21
theorem qa22 {α : Type _} (l : List α) (i : Nat) (x : α) : l.toArray.setIfInBounds i x = (l.set i x).toArray := by simp
theorem qb22 {α : Type _} (l : List α) (x y : α) : (x :: l).set 0 y = y :: l := rfl
theorem qc22 {α : Type _} (l : List α) (n : Nat) (x y : α) : (x :: l).set (n + 1) y = x :: l.set n y := rfl
-- Print11
namespace Go.Proofs.Ytaigmemmgjlhgaa.Print
open Go.RowKit Go.Proofs.YtaigmemmgjlhgaaW.PrintWords Go.Proofs.YtaigmemmgjlhgaaW.PrintLast Go.Proofs.YtaigmemmgjlhgaaW.PrintMore
attribute [local go_sem] q1d q1b q1t q1s q19 q17 q1c q1a
set_option linter.unusedVariables false
set_option linter.unusedSimpArgs false
def table_cut.l0 : Nat → List (S28) → Int → ByteArray → Int → Int → Int → Option (Int × ByteArray × Int)
 | 0, _, _, _, _, _, _ => none
 | k + 1, x0, x7, x8, x168000, x168001, x168002 => if x7 < (x0.length : Int) then (if 0 ≤ (wrap64 (x7 + 1)) then (if (wrap64 (x7 + 1)) ≤ (x0.length : Int) then ((block_Build.f (x0.take ((wrap64 (x7 + 1)) : Int).toNat) x168001).bind fun bt178 => (if bt178.2 = 0 then (if (bt178.1.size : Int) > x168000 then (some (x7, x8, 0)) else (table_cut.l0 k x0 (wrap64 (x7 + 1)) bt178.1 x168000 x168001 x168002)) else (some (x7, x8, 0)))) else (none)) else (none)) else (some (x7, x8, 0))
def table_cut.f (k : Nat) (l0 : List (S28)) (a1_0 : Int) (a1_1 : Int) (a1_2 : Int) : Option (Int × ByteArray × Int) := if 1 ≤ (l0.length : Int) then ((block_Build.f (l0.take 1) a1_1).bind fun bt172 => (if bt172.2 = 0 then (table_cut.l0 k l0 1 bt172.1 a1_0 a1_1 a1_2) else (some (0, (⟨#[]⟩ : ByteArray), bt172.2)))) else (none)
theorem table_cut.mono_l : ∀ k, (∀ y0 y1 y2 y3 y4 y5, LeO (table_cut.l0 k y0 y1 y2 y3 y4 y5) (table_cut.l0 (k + 1) y0 y1 y2 y3 y4 y5))
 | 0 => fun _ _ _ _ _ _ r h => by simp [table_cut.l0] at h
 | k + 1 => by
  have ih0 := table_cut.mono_l k
  ·intro y0 y1 y2 y3 y4 y5
   unfold table_cut.l0
   repeat' first
   | (with_reducible exact ih0 _ _ _ _ _ _)
   | (with_reducible exact LeO.refl _)
   | (with_reducible exact LeO.none _)
   | (with_reducible refine LeO.ite ?_ ?_)
   | (with_reducible refine LeO.bind ?_ (fun _ => ?_))
   | exact ih0 _ _ _ _ _ _
   | exact LeO.none _
   | refine LeO.ite ?_ ?_
   | refine LeO.bind ?_ (fun _ => ?_)
theorem table_cut.mono : ∀ a0 a1 a2 a3 k, LeO (table_cut.f k a0 a1 a2 a3) (table_cut.f (k + 1) a0 a1 a2 a3) := by
 intro a0 a1 a2 a3 k
 have ih0 := table_cut.mono_l k
 unfold table_cut.f
 repeat' first
   | (with_reducible exact ih0 _ _ _ _ _ _)
   | (with_reducible exact LeO.refl _)
   | (with_reducible exact LeO.none _)
   | (with_reducible refine LeO.ite ?_ ?_)
   | (with_reducible refine LeO.bind ?_ (fun _ => ?_))
   | exact ih0 _ _ _ _ _ _
   | exact LeO.none _
   | refine LeO.ite ?_ ?_
   | refine LeO.bind ?_ (fun _ => ?_)
def table_cut.T2 : Bool × List (List Nat × List Nat) := (true, [([], []), ([0], [0]), ([], []), ([2], [2]), ([1, 3], [1, 3]), ([4], [4]), ([5], [5]), ([5], [5]), ([6, 4, 0, 1, 2, 3, 4, 5, 6], [6]), ([7, 8, 0, 1, 2, 3, 4, 5, 6, 7, 8], [7])])
def table_cut.B2 : List Nat := [0, 1, 0, 4, 15, 31, 63, 63, 127, 511]
theorem table_cut.tab2 : rtab .any (opsOf Try.f34 2) = table_cut.T2 := by kernel_rfl
theorem table_cut.bits2 : waitsOk table_cut.T2.2 table_cut.B2 = true := by kernel_rfl
def table_cut.T6 : Bool × List (List Nat × List Nat) := (true, [([], []), ([], []), ([1], [1]), ([0, 2], [0, 2]), ([], []), ([4], [4]), ([3, 5], [3, 5]), ([6], [6]), ([7], [7]), ([7], [7]), ([8, 6, 0, 1, 2, 3, 4, 5, 6, 7, 8], [8]), ([9, 10, 0, 1, 2, 3, 4, 5, 6, 7, 8, 9, 10], [9])])
def table_cut.B6 : List Nat := [0, 0, 2, 7, 0, 16, 63, 127, 255, 255, 511, 2047]
theorem table_cut.tab6 : rtab .any (opsOf Try.f34 6) = table_cut.T6 := by kernel_rfl
theorem table_cut.bits6 : waitsOk table_cut.T6.2 table_cut.B6 = true := by kernel_rfl
set_option maxHeartbeats 8000000 in
set_option maxRecDepth 100000 in
theorem table_cut.calls (k : Nat) (A0 : Option Addr) (c0 : Nat) (l0 : List (S28)) (a1_0 : Int) (a1_1 : Int) (a1_2 : Int) (r1 : Int) (r2 : ByteArray) (r3 : Int) (w : World) (hr0 : Kd.C k28 w A0 l0.length l0) (hc0 : l0.length ≤ c0) (h : table_cut.f k l0 a1_0 a1_1 a1_2 = some (r1, r2, r3)) :
  Calls Try.prog 34 #[.slice A0 l0.length c0, .agg #[.int .i64 a1_0, .int .i64 a1_1, .int .i64 a1_2]] w fun e w' => e = .returned (.tuple #[.int .i64 r1, .string r2, .int .i64 r3]) ∧ Below w.heap.size w w' := by
 have hu41 := Try.underlying41
 have HR0 := q04.mk hr0
 have HC0 := q04.mk hc0
 clear hr0 hc0
 have HB := q04.mk (Below.refl w.heap.size w)
 have H : (if 1 ≤ (l0.length : Int) then ((block_Build.f (l0.take 1) a1_1).bind fun bt172 => (if bt172.2 = 0 then (table_cut.l0 k l0 1 bt172.1 a1_0 a1_1 a1_2) else (some (0, (⟨#[]⟩ : ByteArray), bt172.2)))) else (none)) = some (r1, r2, r3) := h
 clear h
 by_cases c3 : 1 ≤ (l0.length : Int)
 ·rw [if_pos c3] at H
  have c3b0 := eq_true c3
  have c3b1 : decide (1 ≤ (l0.length : Int)) = true := decide_eq_true c3
  clear c3
  obtain ⟨y168, hy168⟩ : ∃ y_ : List (S28), y_ = (l0.take 1) := ⟨_, rfl⟩
  replace H : ((block_Build.f y168 a1_1).bind fun bt172 => (if bt172.2 = 0 then (table_cut.l0 k l0 1 bt172.1 a1_0 a1_1 a1_2) else (some (0, (⟨#[]⟩ : ByteArray), bt172.2)))) = some (r1, r2, r3) := by first | (rw [hy168]; with_reducible exact H) | (have H2_ := (Option.bind_some _ _).symm.trans H; rw [hy168]; with_reducible exact H2_) | (have H2_ := (Option.bind_some _ _).symm.trans H; with_reducible exact H2_) | with_reducible exact H | (rw [hy168]; exact H) | exact H
  have Ny168 := q04.mk hy168
  clear hy168
  replace H := Option.bind_eq_some_iff.mp H
  obtain ⟨⟨t172, t173⟩, A40, H⟩ := H
  replace H : (if t173 = 0 then (table_cut.l0 k l0 1 t172 a1_0 a1_1 a1_2) else (some (0, (⟨#[]⟩ : ByteArray), t173))) = some (r1, r2, r3) := H
  have A4 := q04.mk A40
  clear A40
  by_cases c5 : t173 = 0
  ·rw [if_pos c5] at H
   have c5b0 : (t173 == 0) = true := beq_iff_eq.mpr c5
   have c5b1 : (t173 != 0) = false := bne_eq_false_iff_eq.mpr c5
   clear c5
   have H' := q04.mk H
   clear H
   go_enter Try.func34, Try.ntmps34
   try go_wp2_with (first | ((with_reducible refine q0q (N := 3) rfl ?_); (try (refine q0v (by rfl) ?_; dsimp only)); refine q0r ?hg (N := 3) ?hd (cs := #[.int .i64 a1_0, .int .i64 a1_1, .int .i64 a1_2]) (t := 41) ?hr ?_; (case hd => rfl); (case hg => rfl); (case hr => first | (go_simp; done) | (go_simp; rfl)); intro gb167 hg w6 hbox hb; have n0_ := q04.mk (q0a (by repeat (first | (with_reducible first | exact HB.out | apply q02 | apply q00 | apply q01) | exact HB.out)) hb); have n1_ := q04.mk (hbox); have n2_ := q04.mk ((by rw [hg]; exact (q0e (by repeat (first | (with_reducible first | exact HB.out | apply q02 | apply q00 | apply q01) | exact HB.out))) : w.heap.size ≤ gb167)); have n3_ := q04.mk ((by rw [hg]; exact (q0e (by repeat (first | (with_reducible first | exact HB.out | apply q02 | apply q00 | apply q01) | exact HB.out))) : w.heap.size ≤ gb167)); clear HB; have HB := n0_; have BK167 := n1_; have GW167 := n2_; have GE167 := n3_; clear n0_ n1_ n2_ n3_; clear hb hbox hg))
   have n0_ := q04.mk (q08 BK167.out)
   have n1_ := q04.mk (q01 HB.out)
   clear BK167
   clear HB
   have BK167 := n0_
   have HB := n1_
   clear n0_ n1_
   have q8 : (1 : Int) ≤ ((l0.length : Int) : Int) := of_decide_eq_true (by first | (with_reducible assumption) | assumption)
   obtain ⟨i08, hi08, _, hsz8, _⟩ := info_parts info28
   have hroom8 : l0.length ≤ c0 := HC0.out
   have hC8 : Kd.C k28 _ A0 l0.length l0 := HR0.out
   have hcut8 := cut_to (P := Try.prog) 32 28 .i64 Try.underlying32 hi08 A0 l0.length c0 1 (by omega) q8 hroom8
   have hr8 := Kd.C_take (m := 1) hC8 (by omega)
   have hy8 : y168.length = (1 : Int).toNat := (by rw [Ny168.out, List.length_take]; omega)
   rw [← Ny168.out] at hr8
   rw [← hy8] at hcut8
   have HR171 := q04.mk hr8
   have HC171 := q04.mk (show y168.length ≤ c0 from by omega)
   clear hr8 hC8 hroom8 hi08 hsz8
   have KY8 := q04.mk hy8
   clear hy8
   replace q8 := eq_true q8
   refine start_ (n := 10) (S := fun w' => w'.cell? ⟨gb167, 0, none⟩ = some (.int .i64 a1_0) ∧ w'.cell? ⟨gb167, 1, none⟩ = some (.int .i64 a1_1) ∧ w'.cell? ⟨gb167, 2, none⟩ = some (.int .i64 a1_2)) (ds := []) #[false, false, false, false, false, false, false, false, false, false] (by kernel_rfl) rfl rfl ⟨(q03 BK167.out 0).trans rfl, (q03 BK167.out 1).trans rfl, (q03 BK167.out 2).trans rfl⟩ (fun hHeld => ?_); refine q16 table_cut.tab2 table_cut.bits2 (fun HT_ HW_ => ?_)
   generalize w6.drew = w7 at BK167 HB HR171 hHeld ⊢
   refine pure_ (i := 0) (N := some 13) (v := ?_) (a' := ?_) #[true, false, false, false, false, false, false, false, false, false] rfl rfl (q0j HT_.out (by kernel_rfl)) (fun _ _ _ h => h) (Or.inl ⟨by rfl, ?_⟩) ?_ ?_
   rotate_left
   ·intro w'
    go_simp
    with_reducible rfl
   rotate_left
   ·simp only [Act.put, qa22, qb22, qc22, i64_w, i32_w]
    rfl
   refine pure_ (i := 1) (N := some 14) (v := ?_) (a' := ?_) #[true, true, false, false, false, false, false, false, false, false] rfl rfl (q0j HT_.out (by kernel_rfl)) (fun _ _ _ h => h) (Or.inl ⟨by rfl, ?_⟩) ?_ ?_
   rotate_left
   ·intro w'
    go_simp
    with_reducible rfl
   rotate_left
   ·simp only [Act.put, qa22, qb22, qc22, i64_w, i32_w]
    rfl
   refine pure_ (i := 2) (N := some 15) (v := ?_) (a' := ?_) #[true, true, true, false, false, false, false, false, false, false] rfl rfl (q0j HT_.out (by kernel_rfl)) (fun _ _ _ h => h) (Or.inl ⟨by rfl, ?_⟩) ?_ ?_
   rotate_left
   ·intro w'
    go_simp
    with_reducible rfl
   rotate_left
   ·simp only [Act.put, qa22, qb22, qc22, i64_w, i32_w]
    rfl
   refine take_ (i := 3) (N := some 16) (v := ?_) (a' := ?_) #[true, true, true, true, false, false, false, false, false, false] rfl rfl (q0w HT_.out HW_.out (by kernel_rfl)) (fun _ _ _ h => h) (Or.inl ⟨by rfl, ?_⟩) hHeld ?_ ?_
   rotate_left
   ·rintro w' ⟨s0, s1, s2⟩
    go_simp
    with_reducible rfl
   rotate_left
   ·simp only [Act.put, qa22, qb22, qc22, i64_w, i32_w]
    rfl
   refine one_ (i := 4) (N := some 17) #[true, true, true, true, true, false, false, false, false, false] rfl rfl (q13 HT_.out (by kernel_rfl)) (by decide) (fun K hK => ?_)
   refine goes_ Try.func38 (by kernel_rfl) rfl #[.slice A0 y168.length c0, .int .i64 a1_1] (by rfl) rfl rfl (by (try simp only [List.map_toArray, List.map_cons, List.map_nil]); first | done | rfl | (simp only [List.length_drop, List.length_take]; rfl)) ?_
   with_reducible refine (block_Build.calls _ _ y168 a1_1 t172 t173 _ ?side1 ?side2 A4.out).mono ?_
   (case side1 => repeat (first | exact (Kd.C_below HR171.out HB.out) | (with_reducible refine Kd.C_alloc ?_ _) | (with_reducible refine Kd.C_drewN ?_ _) | (with_reducible refine Kd.C_drew ?_)))
   (case side2 => exact HC171.out)
   rintro e w9 ⟨rfl, hb⟩
   refine ⟨_, rfl, ?_⟩
   have n0_ := q04.mk (q0f (g := gb167) (o := .cells #[.int .i64 a1_0, .int .i64 a1_1, .int .i64 a1_2] 41 (0, 0)) (by (with_reducible repeat (first | refine q07 ?_ _ | refine q08 ?_ | refine q06 ?_ _)); exact BK167.out) hb)
   have n1_ := q04.mk (q0a (by repeat (first | (with_reducible first | exact HB.out | apply q02 | apply q00 | apply q01 | refine q09 ?_ GE167.out) | exact HB.out)) hb)
   clear BK167
   clear HB
   have BK167 := n0_
   have HB := n1_
   clear n0_ n1_
   (try clear hb)
   (try clear hb2)
   (try clear hk)
   (try clear hi)
   refine hK.out _ _ ⟨(q03 BK167.out 0).trans rfl, (q03 BK167.out 1).trans rfl, (q03 BK167.out 2).trans rfl⟩ (fun hHeld => ?_)
   clear hK K
   refine norm_ (a' := ?_) ?_ ?_
   rotate_left
   ·show Act.put _ (some 17) _ = _
    simp only [Act.put, qa22, qb22, qc22, i64_w, i32_w]
    rfl
   refine pure_ (i := 5) (N := some 12) (v := ?_) (a' := ?_) #[true, true, true, true, true, true, false, false, false, false] rfl rfl (q0j HT_.out (by kernel_rfl)) (fun _ _ _ h => h) (Or.inl ⟨by rfl, ?_⟩) ?_ ?_
   rotate_left
   ·intro w'
    go_simp
    with_reducible rfl
   rotate_left
   ·simp only [Act.put, qa22, qb22, qc22, i64_w, i32_w]
    rfl
   refine pure_ (i := 6) (N := some 18) (v := ?_) (a' := ?_) #[true, true, true, true, true, true, true, false, false, false] rfl rfl (q0j HT_.out (by kernel_rfl)) (fun _ _ _ h => h) (Or.inl ⟨by rfl, ?_⟩) ?_ ?_
   rotate_left
   ·intro w'
    go_simp
    with_reducible rfl
   rotate_left
   ·simp only [Act.put, qa22, qb22, qc22, i64_w, i32_w]
    rfl
   refine pure_ (i := 7) (N := some 19) (v := ?_) (a' := ?_) #[true, true, true, true, true, true, true, true, false, false] rfl rfl (q0j HT_.out (by kernel_rfl)) (fun _ _ _ h => h) (Or.inl ⟨by rfl, ?_⟩) ?_ ?_
   rotate_left
   ·intro w'
    go_simp
    with_reducible rfl
   rotate_left
   ·simp only [Act.put, qa22, qb22, qc22, i64_w, i32_w]
    rfl
   refine pure_ (i := 8) (N := some 8) (v := ?_) (a' := ?_) #[true, true, true, true, true, true, true, true, true, false] rfl rfl (q0j HT_.out (by kernel_rfl)) (fun _ _ _ h => h) (Or.inl ⟨by rfl, ?_⟩) ?_ ?_
   rotate_left
   ·intro w'
    go_simp
    with_reducible rfl
   rotate_left
   ·simp only [Act.put, qa22, qb22, qc22, i64_w, i32_w]
    rfl
   refine pure_ (i := 9) (N := some 9) (v := ?_) (a' := ?_) #[true, true, true, true, true, true, true, true, true, true] rfl rfl (q0j HT_.out (by kernel_rfl)) (fun _ _ _ h => h) (Or.inl ⟨by rfl, ?_⟩) ?_ ?_
   rotate_left
   ·intro w'
    go_simp
    with_reducible rfl
   rotate_left
   ·simp only [Act.put, qa22, qb22, qc22, i64_w, i32_w]
    rfl
   refine done_ (q1u HT_.out (by kernel_rfl)) ?_
   try go_wp2
   go_loopg [7, 8] k (fun kq v7 v8 w' => ∃ (x7_1 : Int) (x8_1 : ByteArray), v7 = .int .i64 x7_1 ∧ v8 = .string x8_1 ∧ q04 (table_cut.l0 kq l0 x7_1 x8_1 a1_0 a1_1 a1_2 = some (r1, r2, r3)) ∧ q04 (kq ≤ k) ∧ q04 (w'.heap[gb167]? = some (.cells #[.int .i64 a1_0, .int .i64 a1_1, .int .i64 a1_2] 41 (0, 0))) ∧ q04 (Below w.heap.size w w'))
   case atStart => exact ⟨(1), (t172), (by first | rfl | (simp; done) | (simp [*]; done)), (by first | rfl | (simp; done) | (simp [*]; done)), H', ⟨Nat.le_refl _⟩, ⟨by (with_reducible repeat (first | refine q07 ?_ _ | refine q08 ?_ | refine q06 ?_ _)); exact BK167.out⟩, ⟨by repeat (first | (with_reducible first | exact HB.out | apply q02 | apply q00 | apply q01 | refine q09 ?_ GE167.out) | exact HB.out)⟩⟩
   case round =>
    clear H'
    try clear p2
    try clear c3
    try clear c3b0
    try clear c3b1
    try clear c5
    try clear c5b0
    try clear c5b1
    try clear q8
    try clear q8
    obtain ⟨x7_1, x8_1, rfl, rfl, HA, HK1, BK167, HB⟩ := hrel
    cases gk with
    | zero => exact absurd HA.out (by simp [table_cut.l0])
    | succ k1 =>
     have H := HA.out
     clear HA
     simp only [table_cut.l0] at H
     by_cases c10 : x7_1 < (l0.length : Int)
     ·rw [if_pos c10] at H
      have c10b0 : decide (x7_1 < (l0.length : Int)) = true := decide_eq_true c10
      clear c10
      obtain ⟨ji11, hji11⟩ : ∃ j_ : Int, (wrap64 (x7_1 + 1)) = j_ := ⟨_, rfl⟩
      replace H : (if 0 ≤ (ji11) then (if (ji11) ≤ (l0.length : Int) then ((block_Build.f (l0.take ((ji11) : Int).toNat) a1_1).bind fun bt178 => (if bt178.2 = 0 then (if (bt178.1.size : Int) > a1_0 then (some (x7_1, x8_1, 0)) else (table_cut.l0 k1 l0 ji11 bt178.1 a1_0 a1_1 a1_2)) else (some (x7_1, x8_1, 0)))) else (none)) else (none)) = some (r1, r2, r3) := by first | (rw [hji11] at H; exact H) | (simp only [hji11] at H ⊢; exact H)
      have hji11w : (IntKind.i64.wrap (x7_1 + 1)) = ji11 := (i64_w _).trans hji11
      by_cases c12 : 0 ≤ (ji11)
      ·rw [if_pos c12] at H
       have c12b0 := eq_true c12
       have c12b1 : decide (0 ≤ (ji11)) = true := decide_eq_true c12
       clear c12
       by_cases c13 : (ji11) ≤ (l0.length : Int)
       ·rw [if_pos c13] at H
        have c13b0 := eq_true c13
        have c13b1 : decide ((ji11) ≤ (l0.length : Int)) = true := decide_eq_true c13
        clear c13
        obtain ⟨y174, hy174⟩ : ∃ y_ : List (S28), y_ = (l0.take ((ji11) : Int).toNat) := ⟨_, rfl⟩
        replace H : ((block_Build.f y174 a1_1).bind fun bt178 => (if bt178.2 = 0 then (if (bt178.1.size : Int) > a1_0 then (some (x7_1, x8_1, 0)) else (table_cut.l0 k1 l0 ji11 bt178.1 a1_0 a1_1 a1_2)) else (some (x7_1, x8_1, 0)))) = some (r1, r2, r3) := by first | (rw [hy174]; with_reducible exact H) | (have H2_ := (Option.bind_some _ _).symm.trans H; rw [hy174]; with_reducible exact H2_) | (have H2_ := (Option.bind_some _ _).symm.trans H; with_reducible exact H2_) | with_reducible exact H | (rw [hy174]; exact H) | exact H
        have Ny174 := q04.mk hy174
        clear hy174
        replace H := Option.bind_eq_some_iff.mp H
        obtain ⟨⟨t178, t179⟩, A140, H⟩ := H
        replace H : (if t179 = 0 then (if (t178.size : Int) > a1_0 then (some (x7_1, x8_1, 0)) else (table_cut.l0 k1 l0 ji11 t178 a1_0 a1_1 a1_2)) else (some (x7_1, x8_1, 0))) = some (r1, r2, r3) := H
        have A14 := q04.mk A140
        clear A140
        by_cases c15 : t179 = 0
        ·rw [if_pos c15] at H
         have c15b0 : (t179 == 0) = true := beq_iff_eq.mpr c15
         have c15b1 : (t179 != 0) = false := bne_eq_false_iff_eq.mpr c15
         clear c15
         by_cases c16 : (t178.size : Int) > a1_0
         ·rw [if_pos c16] at H
          have c16b0 : decide (a1_0 < (t178.size : Int)) = true := decide_eq_true c16
          clear c16
          simp only [Option.some.injEq, Prod.mk.injEq] at H
          obtain ⟨rfl, rfl, rfl⟩ := H
          try go_wp2
          have n0_ := q04.mk (q08 BK167.out)
          have n1_ := q04.mk (q01 HB.out)
          clear BK167
          clear HB
          have BK167 := n0_
          have HB := n1_
          clear n0_ n1_
          have q18 : ((ji11) : Int) ≤ ((l0.length : Int) : Int) := of_decide_eq_true (by first | (with_reducible assumption) | assumption)
          obtain ⟨i018, hi018, _, hsz18, _⟩ := info_parts info28
          have hroom18 : l0.length ≤ c0 := HC0.out
          have hC18 : Kd.C k28 _ A0 l0.length l0 := HR0.out
          have hcut18 := cut_to (P := Try.prog) 32 28 .i64 Try.underlying32 hi018 A0 l0.length c0 (ji11) (of_decide_eq_true (by first | (with_reducible assumption) | assumption)) q18 hroom18
          have hr18 := Kd.C_take (m := ((ji11) : Int).toNat) hC18 (by omega)
          have hy18 : y174.length = ((ji11) : Int).toNat := (by rw [Ny174.out, List.length_take]; omega)
          rw [← Ny174.out] at hr18
          rw [← hy18] at hcut18
          have HR177 := q04.mk hr18
          have HC177 := q04.mk (show y174.length ≤ c0 from by omega)
          clear hr18 hC18 hroom18 hi018 hsz18
          have KY18 := q04.mk hy18
          clear hy18
          replace q18 := eq_true q18
          refine start_ (n := 12) (S := fun w' => w'.cell? ⟨gb167, 0, none⟩ = some (.int .i64 a1_0) ∧ w'.cell? ⟨gb167, 1, none⟩ = some (.int .i64 a1_1) ∧ w'.cell? ⟨gb167, 2, none⟩ = some (.int .i64 a1_2)) (ds := []) #[false, false, false, false, false, false, false, false, false, false, false, false] (by kernel_rfl) rfl rfl ⟨(q03 BK167.out 0).trans rfl, (q03 BK167.out 1).trans rfl, (q03 BK167.out 2).trans rfl⟩ (fun hHeld => ?_); refine q16 table_cut.tab6 table_cut.bits6 (fun HT_ HW_ => ?_)
          generalize wr.drew = w17 at BK167 HB HR177 hHeld ⊢
          refine pure_ (i := 0) (N := some 28) (v := ?_) (a' := ?_) #[true, false, false, false, false, false, false, false, false, false, false, false] rfl rfl (q0j HT_.out (by kernel_rfl)) (fun _ _ _ h => h) (Or.inl ⟨by rfl, ?_⟩) ?_ ?_
          rotate_left
          ·intro w'
           go_simp
           with_reducible rfl
          rotate_left
          ·simp only [Act.put, qa22, qb22, qc22, i64_w, i32_w]
           rfl
          refine pure_ (i := 1) (N := some 29) (v := ?_) (a' := ?_) #[true, true, false, false, false, false, false, false, false, false, false, false] rfl rfl (q0j HT_.out (by kernel_rfl)) (fun _ _ _ h => h) (Or.inl ⟨by rfl, ?_⟩) ?_ ?_
          rotate_left
          ·intro w'
           go_simp
           with_reducible rfl
          rotate_left
          ·simp only [Act.put, qa22, qb22, qc22, i64_w, i32_w]
           rfl
          refine pure_ (i := 2) (N := some 30) (v := ?_) (a' := ?_) #[true, true, true, false, false, false, false, false, false, false, false, false] rfl rfl (q0j HT_.out (by kernel_rfl)) (fun _ _ _ h => h) (Or.inl ⟨by rfl, ?_⟩) ?_ ?_
          rotate_left
          ·intro w'
           go_simp
           with_reducible rfl
          rotate_left
          ·simp only [Act.put, qa22, qb22, qc22, i64_w, i32_w]
           rfl
          refine pure_ (i := 3) (N := some 31) (v := ?_) (a' := ?_) #[true, true, true, true, false, false, false, false, false, false, false, false] rfl rfl (q0j HT_.out (by kernel_rfl)) (fun _ _ _ h => h) (Or.inl ⟨by rfl, ?_⟩) ?_ ?_
          rotate_left
          ·intro w'
           go_simp
           with_reducible rfl
          rotate_left
          ·simp only [Act.put, qa22, qb22, qc22, i64_w, i32_w]
           rfl
          refine pure_ (i := 4) (N := some 32) (v := ?_) (a' := ?_) #[true, true, true, true, true, false, false, false, false, false, false, false] rfl rfl (q0j HT_.out (by kernel_rfl)) (fun _ _ _ h => h) (Or.inl ⟨by rfl, ?_⟩) ?_ ?_
          rotate_left
          ·intro w'
           go_simp
           with_reducible rfl
          rotate_left
          ·simp only [Act.put, qa22, qb22, qc22, i64_w, i32_w]
           rfl
          refine take_ (i := 5) (N := some 33) (v := ?_) (a' := ?_) #[true, true, true, true, true, true, false, false, false, false, false, false] rfl rfl (q0w HT_.out HW_.out (by kernel_rfl)) (fun _ _ _ h => h) (Or.inl ⟨by rfl, ?_⟩) hHeld ?_ ?_
          rotate_left
          ·rintro w' ⟨s0, s1, s2⟩
           go_simp
           with_reducible rfl
          rotate_left
          ·simp only [Act.put, qa22, qb22, qc22, i64_w, i32_w]
           rfl
          refine one_ (i := 6) (N := some 34) #[true, true, true, true, true, true, true, false, false, false, false, false] rfl rfl (q13 HT_.out (by kernel_rfl)) (by decide) (fun K hK => ?_)
          refine goes_ Try.func38 (by kernel_rfl) rfl #[.slice A0 y174.length c0, .int .i64 a1_1] (by rfl) rfl rfl (by (try simp only [List.map_toArray, List.map_cons, List.map_nil]); first | done | rfl | (simp only [List.length_drop, List.length_take]; rfl)) ?_
          with_reducible refine (block_Build.calls _ _ y174 a1_1 t178 t179 _ ?side1 ?side2 A14.out).mono ?_
          (case side1 => repeat (first | exact (Kd.C_below HR177.out HB.out) | (with_reducible refine Kd.C_alloc ?_ _) | (with_reducible refine Kd.C_drewN ?_ _) | (with_reducible refine Kd.C_drew ?_)))
          (case side2 => exact HC177.out)
          rintro e w19 ⟨rfl, hb⟩
          refine ⟨_, rfl, ?_⟩
          have n0_ := q04.mk (q0f (g := gb167) (o := .cells #[.int .i64 a1_0, .int .i64 a1_1, .int .i64 a1_2] 41 (0, 0)) (by (with_reducible repeat (first | refine q07 ?_ _ | refine q08 ?_ | refine q06 ?_ _)); exact BK167.out) hb)
          have n1_ := q04.mk (q0a (by repeat (first | (with_reducible first | exact HB.out | apply q02 | apply q00 | apply q01 | refine q09 ?_ GE167.out) | exact HB.out)) hb)
          clear BK167
          clear HB
          have BK167 := n0_
          have HB := n1_
          clear n0_ n1_
          (try clear hb)
          (try clear hb2)
          (try clear hk)
          (try clear hi)
          refine hK.out _ _ ⟨(q03 BK167.out 0).trans rfl, (q03 BK167.out 1).trans rfl, (q03 BK167.out 2).trans rfl⟩ (fun hHeld => ?_)
          clear hK K
          refine norm_ (a' := ?_) ?_ ?_
          rotate_left
          ·show Act.put _ (some 34) _ = _
           simp only [Act.put, qa22, qb22, qc22, i64_w, i32_w]
           rfl
          refine pure_ (i := 7) (N := some 27) (v := ?_) (a' := ?_) #[true, true, true, true, true, true, true, true, false, false, false, false] rfl rfl (q0j HT_.out (by kernel_rfl)) (fun _ _ _ h => h) (Or.inl ⟨by rfl, ?_⟩) ?_ ?_
          rotate_left
          ·intro w'
           go_simp
           with_reducible rfl
          rotate_left
          ·simp only [Act.put, qa22, qb22, qc22, i64_w, i32_w]
           rfl
          refine pure_ (i := 8) (N := some 35) (v := ?_) (a' := ?_) #[true, true, true, true, true, true, true, true, true, false, false, false] rfl rfl (q0j HT_.out (by kernel_rfl)) (fun _ _ _ h => h) (Or.inl ⟨by rfl, ?_⟩) ?_ ?_
          rotate_left
          ·intro w'
           go_simp
           with_reducible rfl
          rotate_left
          ·simp only [Act.put, qa22, qb22, qc22, i64_w, i32_w]
           rfl
          refine pure_ (i := 9) (N := some 36) (v := ?_) (a' := ?_) #[true, true, true, true, true, true, true, true, true, true, false, false] rfl rfl (q0j HT_.out (by kernel_rfl)) (fun _ _ _ h => h) (Or.inl ⟨by rfl, ?_⟩) ?_ ?_
          rotate_left
          ·intro w'
           go_simp
           with_reducible rfl
          rotate_left
          ·simp only [Act.put, qa22, qb22, qc22, i64_w, i32_w]
           rfl
          refine pure_ (i := 10) (N := some 10) (v := ?_) (a' := ?_) #[true, true, true, true, true, true, true, true, true, true, true, false] rfl rfl (q0j HT_.out (by kernel_rfl)) (fun _ _ _ h => h) (Or.inl ⟨by rfl, ?_⟩) ?_ ?_
          rotate_left
          ·intro w'
           go_simp
           with_reducible rfl
          rotate_left
          ·simp only [Act.put, qa22, qb22, qc22, i64_w, i32_w]
           rfl
          refine pure_ (i := 11) (N := some 11) (v := ?_) (a' := ?_) #[true, true, true, true, true, true, true, true, true, true, true, true] rfl rfl (q0j HT_.out (by kernel_rfl)) (fun _ _ _ h => h) (Or.inl ⟨by rfl, ?_⟩) ?_ ?_
          rotate_left
          ·intro w'
           go_simp
           with_reducible rfl
          rotate_left
          ·simp only [Act.put, qa22, qb22, qc22, i64_w, i32_w]
           rfl
          refine done_ (q1u HT_.out (by kernel_rfl)) ?_
          have hcz20_0 : w19.cell? ⟨gb167, 0, none⟩ = some (.int .i64 a1_0) := (q03 BK167.out 0).trans rfl
          have hcz20_1 : w19.cell? ⟨gb167, 1, none⟩ = some (.int .i64 a1_1) := (q03 BK167.out 1).trans rfl
          have hcz20_2 : w19.cell? ⟨gb167, 2, none⟩ = some (.int .i64 a1_2) := (q03 BK167.out 2).trans rfl
          have hfz20_0 := q05 BK167.out 0
          have hfz20_1 := q05 BK167.out 1
          have hfz20_2 := q05 BK167.out 2
          try go_wp2
          go_ret3
          exact ⟨by first | rfl | (simp [q0c, q0b] <;> rfl) | (simp only [← hji11]; first | rfl | (simp [q0c, q0b] <;> rfl)) | (simp [*, q0c, q0b] <;> rfl), by repeat (first | (with_reducible first | exact HB.out | apply q02 | apply q00 | apply q01 | refine q09 ?_ GE167.out) | exact HB.out)⟩
         ·rw [if_neg c16] at H
          have c16b0 : decide (a1_0 < (t178.size : Int)) = false := decide_eq_false c16
          clear c16
          have H' := q04.mk H
          clear H
          try go_wp2
          have n0_ := q04.mk (q08 BK167.out)
          have n1_ := q04.mk (q01 HB.out)
          clear BK167
          clear HB
          have BK167 := n0_
          have HB := n1_
          clear n0_ n1_
          have q22 : ((ji11) : Int) ≤ ((l0.length : Int) : Int) := of_decide_eq_true (by first | (with_reducible assumption) | assumption)
          obtain ⟨i022, hi022, _, hsz22, _⟩ := info_parts info28
          have hroom22 : l0.length ≤ c0 := HC0.out
          have hC22 : Kd.C k28 _ A0 l0.length l0 := HR0.out
          have hcut22 := cut_to (P := Try.prog) 32 28 .i64 Try.underlying32 hi022 A0 l0.length c0 (ji11) (of_decide_eq_true (by first | (with_reducible assumption) | assumption)) q22 hroom22
          have hr22 := Kd.C_take (m := ((ji11) : Int).toNat) hC22 (by omega)
          have hy22 : y174.length = ((ji11) : Int).toNat := (by rw [Ny174.out, List.length_take]; omega)
          rw [← Ny174.out] at hr22
          rw [← hy22] at hcut22
          have HR177 := q04.mk hr22
          have HC177 := q04.mk (show y174.length ≤ c0 from by omega)
          clear hr22 hC22 hroom22 hi022 hsz22
          have KY22 := q04.mk hy22
          clear hy22
          replace q22 := eq_true q22
          refine start_ (n := 12) (S := fun w' => w'.cell? ⟨gb167, 0, none⟩ = some (.int .i64 a1_0) ∧ w'.cell? ⟨gb167, 1, none⟩ = some (.int .i64 a1_1) ∧ w'.cell? ⟨gb167, 2, none⟩ = some (.int .i64 a1_2)) (ds := []) #[false, false, false, false, false, false, false, false, false, false, false, false] (by kernel_rfl) rfl rfl ⟨(q03 BK167.out 0).trans rfl, (q03 BK167.out 1).trans rfl, (q03 BK167.out 2).trans rfl⟩ (fun hHeld => ?_); refine q16 table_cut.tab6 table_cut.bits6 (fun HT_ HW_ => ?_)
          generalize wr.drew = w21 at BK167 HB HR177 hHeld ⊢
          refine pure_ (i := 0) (N := some 28) (v := ?_) (a' := ?_) #[true, false, false, false, false, false, false, false, false, false, false, false] rfl rfl (q0j HT_.out (by kernel_rfl)) (fun _ _ _ h => h) (Or.inl ⟨by rfl, ?_⟩) ?_ ?_
          rotate_left
          ·intro w'
           go_simp
           with_reducible rfl
          rotate_left
          ·simp only [Act.put, qa22, qb22, qc22, i64_w, i32_w]
           rfl
          refine pure_ (i := 1) (N := some 29) (v := ?_) (a' := ?_) #[true, true, false, false, false, false, false, false, false, false, false, false] rfl rfl (q0j HT_.out (by kernel_rfl)) (fun _ _ _ h => h) (Or.inl ⟨by rfl, ?_⟩) ?_ ?_
          rotate_left
          ·intro w'
           go_simp
           with_reducible rfl
          rotate_left
          ·simp only [Act.put, qa22, qb22, qc22, i64_w, i32_w]
           rfl
          refine pure_ (i := 2) (N := some 30) (v := ?_) (a' := ?_) #[true, true, true, false, false, false, false, false, false, false, false, false] rfl rfl (q0j HT_.out (by kernel_rfl)) (fun _ _ _ h => h) (Or.inl ⟨by rfl, ?_⟩) ?_ ?_
          rotate_left
          ·intro w'
           go_simp
           with_reducible rfl
          rotate_left
          ·simp only [Act.put, qa22, qb22, qc22, i64_w, i32_w]
           rfl
          refine pure_ (i := 3) (N := some 31) (v := ?_) (a' := ?_) #[true, true, true, true, false, false, false, false, false, false, false, false] rfl rfl (q0j HT_.out (by kernel_rfl)) (fun _ _ _ h => h) (Or.inl ⟨by rfl, ?_⟩) ?_ ?_
          rotate_left
          ·intro w'
           go_simp
           with_reducible rfl
          rotate_left
          ·simp only [Act.put, qa22, qb22, qc22, i64_w, i32_w]
           rfl
          refine pure_ (i := 4) (N := some 32) (v := ?_) (a' := ?_) #[true, true, true, true, true, false, false, false, false, false, false, false] rfl rfl (q0j HT_.out (by kernel_rfl)) (fun _ _ _ h => h) (Or.inl ⟨by rfl, ?_⟩) ?_ ?_
          rotate_left
          ·intro w'
           go_simp
           with_reducible rfl
          rotate_left
          ·simp only [Act.put, qa22, qb22, qc22, i64_w, i32_w]
           rfl
          refine take_ (i := 5) (N := some 33) (v := ?_) (a' := ?_) #[true, true, true, true, true, true, false, false, false, false, false, false] rfl rfl (q0w HT_.out HW_.out (by kernel_rfl)) (fun _ _ _ h => h) (Or.inl ⟨by rfl, ?_⟩) hHeld ?_ ?_
          rotate_left
          ·rintro w' ⟨s0, s1, s2⟩
           go_simp
           with_reducible rfl
          rotate_left
          ·simp only [Act.put, qa22, qb22, qc22, i64_w, i32_w]
           rfl
          refine one_ (i := 6) (N := some 34) #[true, true, true, true, true, true, true, false, false, false, false, false] rfl rfl (q13 HT_.out (by kernel_rfl)) (by decide) (fun K hK => ?_)
          refine goes_ Try.func38 (by kernel_rfl) rfl #[.slice A0 y174.length c0, .int .i64 a1_1] (by rfl) rfl rfl (by (try simp only [List.map_toArray, List.map_cons, List.map_nil]); first | done | rfl | (simp only [List.length_drop, List.length_take]; rfl)) ?_
          with_reducible refine (block_Build.calls _ _ y174 a1_1 t178 t179 _ ?side1 ?side2 A14.out).mono ?_
          (case side1 => repeat (first | exact (Kd.C_below HR177.out HB.out) | (with_reducible refine Kd.C_alloc ?_ _) | (with_reducible refine Kd.C_drewN ?_ _) | (with_reducible refine Kd.C_drew ?_)))
          (case side2 => exact HC177.out)
          rintro e w23 ⟨rfl, hb⟩
          refine ⟨_, rfl, ?_⟩
          have n0_ := q04.mk (q0f (g := gb167) (o := .cells #[.int .i64 a1_0, .int .i64 a1_1, .int .i64 a1_2] 41 (0, 0)) (by (with_reducible repeat (first | refine q07 ?_ _ | refine q08 ?_ | refine q06 ?_ _)); exact BK167.out) hb)
          have n1_ := q04.mk (q0a (by repeat (first | (with_reducible first | exact HB.out | apply q02 | apply q00 | apply q01 | refine q09 ?_ GE167.out) | exact HB.out)) hb)
          clear BK167
          clear HB
          have BK167 := n0_
          have HB := n1_
          clear n0_ n1_
          (try clear hb)
          (try clear hb2)
          (try clear hk)
          (try clear hi)
          refine hK.out _ _ ⟨(q03 BK167.out 0).trans rfl, (q03 BK167.out 1).trans rfl, (q03 BK167.out 2).trans rfl⟩ (fun hHeld => ?_)
          clear hK K
          refine norm_ (a' := ?_) ?_ ?_
          rotate_left
          ·show Act.put _ (some 34) _ = _
           simp only [Act.put, qa22, qb22, qc22, i64_w, i32_w]
           rfl
          refine pure_ (i := 7) (N := some 27) (v := ?_) (a' := ?_) #[true, true, true, true, true, true, true, true, false, false, false, false] rfl rfl (q0j HT_.out (by kernel_rfl)) (fun _ _ _ h => h) (Or.inl ⟨by rfl, ?_⟩) ?_ ?_
          rotate_left
          ·intro w'
           go_simp
           with_reducible rfl
          rotate_left
          ·simp only [Act.put, qa22, qb22, qc22, i64_w, i32_w]
           rfl
          refine pure_ (i := 8) (N := some 35) (v := ?_) (a' := ?_) #[true, true, true, true, true, true, true, true, true, false, false, false] rfl rfl (q0j HT_.out (by kernel_rfl)) (fun _ _ _ h => h) (Or.inl ⟨by rfl, ?_⟩) ?_ ?_
          rotate_left
          ·intro w'
           go_simp
           with_reducible rfl
          rotate_left
          ·simp only [Act.put, qa22, qb22, qc22, i64_w, i32_w]
           rfl
          refine pure_ (i := 9) (N := some 36) (v := ?_) (a' := ?_) #[true, true, true, true, true, true, true, true, true, true, false, false] rfl rfl (q0j HT_.out (by kernel_rfl)) (fun _ _ _ h => h) (Or.inl ⟨by rfl, ?_⟩) ?_ ?_
          rotate_left
          ·intro w'
           go_simp
           with_reducible rfl
          rotate_left
          ·simp only [Act.put, qa22, qb22, qc22, i64_w, i32_w]
           rfl
          refine pure_ (i := 10) (N := some 10) (v := ?_) (a' := ?_) #[true, true, true, true, true, true, true, true, true, true, true, false] rfl rfl (q0j HT_.out (by kernel_rfl)) (fun _ _ _ h => h) (Or.inl ⟨by rfl, ?_⟩) ?_ ?_
          rotate_left
          ·intro w'
           go_simp
           with_reducible rfl
          rotate_left
          ·simp only [Act.put, qa22, qb22, qc22, i64_w, i32_w]
           rfl
          refine pure_ (i := 11) (N := some 11) (v := ?_) (a' := ?_) #[true, true, true, true, true, true, true, true, true, true, true, true] rfl rfl (q0j HT_.out (by kernel_rfl)) (fun _ _ _ h => h) (Or.inl ⟨by rfl, ?_⟩) ?_ ?_
          rotate_left
          ·intro w'
           go_simp
           with_reducible rfl
          rotate_left
          ·simp only [Act.put, qa22, qb22, qc22, i64_w, i32_w]
           rfl
          refine done_ (q1u HT_.out (by kernel_rfl)) ?_
          have hcz24_0 : w23.cell? ⟨gb167, 0, none⟩ = some (.int .i64 a1_0) := (q03 BK167.out 0).trans rfl
          have hcz24_1 : w23.cell? ⟨gb167, 1, none⟩ = some (.int .i64 a1_1) := (q03 BK167.out 1).trans rfl
          have hcz24_2 : w23.cell? ⟨gb167, 2, none⟩ = some (.int .i64 a1_2) := (q03 BK167.out 2).trans rfl
          have hfz24_0 := q05 BK167.out 0
          have hfz24_1 := q05 BK167.out 1
          have hfz24_2 := q05 BK167.out 2
          try go_wp2
          go_roundg k1
          case measure => have := HK1.out; omega
          case rel => exact ⟨(ji11), (t178), (by first | rfl | (simp; done) | (simp only [← hji11] <;> (first | rfl | simp)) | (simp [*]; done)), (by first | rfl | (simp; done) | (simp [*]; done)), H', ⟨by have := HK1.out; omega⟩, ⟨by (with_reducible repeat (first | refine q07 ?_ _ | refine q08 ?_ | refine q06 ?_ _)); exact BK167.out⟩, ⟨by repeat (first | (with_reducible first | exact HB.out | apply q02 | apply q00 | apply q01 | refine q09 ?_ GE167.out) | exact HB.out)⟩⟩
        ·rw [if_neg c15] at H
         have c15b0 : (t179 == 0) = false := beq_eq_false_iff_ne.mpr c15
         have c15b1 : (t179 != 0) = true := bne_iff_ne.mpr c15
         simp only [Option.some.injEq, Prod.mk.injEq] at H
         obtain ⟨rfl, rfl, rfl⟩ := H
         try go_wp2
         have n0_ := q04.mk (q08 BK167.out)
         have n1_ := q04.mk (q01 HB.out)
         clear BK167
         clear HB
         have BK167 := n0_
         have HB := n1_
         clear n0_ n1_
         have q26 : ((ji11) : Int) ≤ ((l0.length : Int) : Int) := of_decide_eq_true (by first | (with_reducible assumption) | assumption)
         obtain ⟨i026, hi026, _, hsz26, _⟩ := info_parts info28
         have hroom26 : l0.length ≤ c0 := HC0.out
         have hC26 : Kd.C k28 _ A0 l0.length l0 := HR0.out
         have hcut26 := cut_to (P := Try.prog) 32 28 .i64 Try.underlying32 hi026 A0 l0.length c0 (ji11) (of_decide_eq_true (by first | (with_reducible assumption) | assumption)) q26 hroom26
         have hr26 := Kd.C_take (m := ((ji11) : Int).toNat) hC26 (by omega)
         have hy26 : y174.length = ((ji11) : Int).toNat := (by rw [Ny174.out, List.length_take]; omega)
         rw [← Ny174.out] at hr26
         rw [← hy26] at hcut26
         have HR177 := q04.mk hr26
         have HC177 := q04.mk (show y174.length ≤ c0 from by omega)
         clear hr26 hC26 hroom26 hi026 hsz26
         have KY26 := q04.mk hy26
         clear hy26
         replace q26 := eq_true q26
         refine start_ (n := 12) (S := fun w' => w'.cell? ⟨gb167, 0, none⟩ = some (.int .i64 a1_0) ∧ w'.cell? ⟨gb167, 1, none⟩ = some (.int .i64 a1_1) ∧ w'.cell? ⟨gb167, 2, none⟩ = some (.int .i64 a1_2)) (ds := []) #[false, false, false, false, false, false, false, false, false, false, false, false] (by kernel_rfl) rfl rfl ⟨(q03 BK167.out 0).trans rfl, (q03 BK167.out 1).trans rfl, (q03 BK167.out 2).trans rfl⟩ (fun hHeld => ?_); refine q16 table_cut.tab6 table_cut.bits6 (fun HT_ HW_ => ?_)
         generalize wr.drew = w25 at BK167 HB HR177 hHeld ⊢
         refine pure_ (i := 0) (N := some 28) (v := ?_) (a' := ?_) #[true, false, false, false, false, false, false, false, false, false, false, false] rfl rfl (q0j HT_.out (by kernel_rfl)) (fun _ _ _ h => h) (Or.inl ⟨by rfl, ?_⟩) ?_ ?_
         rotate_left
         ·intro w'
          go_simp
          with_reducible rfl
         rotate_left
         ·simp only [Act.put, qa22, qb22, qc22, i64_w, i32_w]
          rfl
         refine pure_ (i := 1) (N := some 29) (v := ?_) (a' := ?_) #[true, true, false, false, false, false, false, false, false, false, false, false] rfl rfl (q0j HT_.out (by kernel_rfl)) (fun _ _ _ h => h) (Or.inl ⟨by rfl, ?_⟩) ?_ ?_
         rotate_left
         ·intro w'
          go_simp
          with_reducible rfl
         rotate_left
         ·simp only [Act.put, qa22, qb22, qc22, i64_w, i32_w]
          rfl
         refine pure_ (i := 2) (N := some 30) (v := ?_) (a' := ?_) #[true, true, true, false, false, false, false, false, false, false, false, false] rfl rfl (q0j HT_.out (by kernel_rfl)) (fun _ _ _ h => h) (Or.inl ⟨by rfl, ?_⟩) ?_ ?_
         rotate_left
         ·intro w'
          go_simp
          with_reducible rfl
         rotate_left
         ·simp only [Act.put, qa22, qb22, qc22, i64_w, i32_w]
          rfl
         refine pure_ (i := 3) (N := some 31) (v := ?_) (a' := ?_) #[true, true, true, true, false, false, false, false, false, false, false, false] rfl rfl (q0j HT_.out (by kernel_rfl)) (fun _ _ _ h => h) (Or.inl ⟨by rfl, ?_⟩) ?_ ?_
         rotate_left
         ·intro w'
          go_simp
          with_reducible rfl
         rotate_left
         ·simp only [Act.put, qa22, qb22, qc22, i64_w, i32_w]
          rfl
         refine pure_ (i := 4) (N := some 32) (v := ?_) (a' := ?_) #[true, true, true, true, true, false, false, false, false, false, false, false] rfl rfl (q0j HT_.out (by kernel_rfl)) (fun _ _ _ h => h) (Or.inl ⟨by rfl, ?_⟩) ?_ ?_
         rotate_left
         ·intro w'
          go_simp
          with_reducible rfl
         rotate_left
         ·simp only [Act.put, qa22, qb22, qc22, i64_w, i32_w]
          rfl
         refine take_ (i := 5) (N := some 33) (v := ?_) (a' := ?_) #[true, true, true, true, true, true, false, false, false, false, false, false] rfl rfl (q0w HT_.out HW_.out (by kernel_rfl)) (fun _ _ _ h => h) (Or.inl ⟨by rfl, ?_⟩) hHeld ?_ ?_
         rotate_left
         ·rintro w' ⟨s0, s1, s2⟩
          go_simp
          with_reducible rfl
         rotate_left
         ·simp only [Act.put, qa22, qb22, qc22, i64_w, i32_w]
          rfl
         refine one_ (i := 6) (N := some 34) #[true, true, true, true, true, true, true, false, false, false, false, false] rfl rfl (q13 HT_.out (by kernel_rfl)) (by decide) (fun K hK => ?_)
         refine goes_ Try.func38 (by kernel_rfl) rfl #[.slice A0 y174.length c0, .int .i64 a1_1] (by rfl) rfl rfl (by (try simp only [List.map_toArray, List.map_cons, List.map_nil]); first | done | rfl | (simp only [List.length_drop, List.length_take]; rfl)) ?_
         with_reducible refine (block_Build.calls _ _ y174 a1_1 t178 t179 _ ?side1 ?side2 A14.out).mono ?_
         (case side1 => repeat (first | exact (Kd.C_below HR177.out HB.out) | (with_reducible refine Kd.C_alloc ?_ _) | (with_reducible refine Kd.C_drewN ?_ _) | (with_reducible refine Kd.C_drew ?_)))
         (case side2 => exact HC177.out)
         rintro e w27 ⟨rfl, hb⟩
         refine ⟨_, rfl, ?_⟩
         have n0_ := q04.mk (q0f (g := gb167) (o := .cells #[.int .i64 a1_0, .int .i64 a1_1, .int .i64 a1_2] 41 (0, 0)) (by (with_reducible repeat (first | refine q07 ?_ _ | refine q08 ?_ | refine q06 ?_ _)); exact BK167.out) hb)
         have n1_ := q04.mk (q0a (by repeat (first | (with_reducible first | exact HB.out | apply q02 | apply q00 | apply q01 | refine q09 ?_ GE167.out) | exact HB.out)) hb)
         clear BK167
         clear HB
         have BK167 := n0_
         have HB := n1_
         clear n0_ n1_
         (try clear hb)
         (try clear hb2)
         (try clear hk)
         (try clear hi)
         refine hK.out _ _ ⟨(q03 BK167.out 0).trans rfl, (q03 BK167.out 1).trans rfl, (q03 BK167.out 2).trans rfl⟩ (fun hHeld => ?_)
         clear hK K
         refine norm_ (a' := ?_) ?_ ?_
         rotate_left
         ·show Act.put _ (some 34) _ = _
          simp only [Act.put, qa22, qb22, qc22, i64_w, i32_w]
          rfl
         refine pure_ (i := 7) (N := some 27) (v := ?_) (a' := ?_) #[true, true, true, true, true, true, true, true, false, false, false, false] rfl rfl (q0j HT_.out (by kernel_rfl)) (fun _ _ _ h => h) (Or.inl ⟨by rfl, ?_⟩) ?_ ?_
         rotate_left
         ·intro w'
          go_simp
          with_reducible rfl
         rotate_left
         ·simp only [Act.put, qa22, qb22, qc22, i64_w, i32_w]
          rfl
         refine pure_ (i := 8) (N := some 35) (v := ?_) (a' := ?_) #[true, true, true, true, true, true, true, true, true, false, false, false] rfl rfl (q0j HT_.out (by kernel_rfl)) (fun _ _ _ h => h) (Or.inl ⟨by rfl, ?_⟩) ?_ ?_
         rotate_left
         ·intro w'
          go_simp
          with_reducible rfl
         rotate_left
         ·simp only [Act.put, qa22, qb22, qc22, i64_w, i32_w]
          rfl
         refine pure_ (i := 9) (N := some 36) (v := ?_) (a' := ?_) #[true, true, true, true, true, true, true, true, true, true, false, false] rfl rfl (q0j HT_.out (by kernel_rfl)) (fun _ _ _ h => h) (Or.inl ⟨by rfl, ?_⟩) ?_ ?_
         rotate_left
         ·intro w'
          go_simp
          with_reducible rfl
         rotate_left
         ·simp only [Act.put, qa22, qb22, qc22, i64_w, i32_w]
          rfl
         refine pure_ (i := 10) (N := some 10) (v := ?_) (a' := ?_) #[true, true, true, true, true, true, true, true, true, true, true, false] rfl rfl (q0j HT_.out (by kernel_rfl)) (fun _ _ _ h => h) (Or.inl ⟨by rfl, ?_⟩) ?_ ?_
         rotate_left
         ·intro w'
          go_simp
          with_reducible rfl
         rotate_left
         ·simp only [Act.put, qa22, qb22, qc22, i64_w, i32_w]
          rfl
         refine pure_ (i := 11) (N := some 11) (v := ?_) (a' := ?_) #[true, true, true, true, true, true, true, true, true, true, true, true] rfl rfl (q0j HT_.out (by kernel_rfl)) (fun _ _ _ h => h) (Or.inl ⟨by rfl, ?_⟩) ?_ ?_
         rotate_left
         ·intro w'
          go_simp
          with_reducible rfl
         rotate_left
         ·simp only [Act.put, qa22, qb22, qc22, i64_w, i32_w]
          rfl
         refine done_ (q1u HT_.out (by kernel_rfl)) ?_
         try go_wp2
         go_ret3
         exact ⟨by first | rfl | (simp [q0c, q0b] <;> rfl) | (simp only [← hji11]; first | rfl | (simp [q0c, q0b] <;> rfl)) | (simp [*, q0c, q0b] <;> rfl), by repeat (first | (with_reducible first | exact HB.out | apply q02 | apply q00 | apply q01 | refine q09 ?_ GE167.out) | exact HB.out)⟩
       ·rw [if_neg c13] at H
        exact absurd H (by simp)
      ·rw [if_neg c12] at H
       exact absurd H (by simp)
     ·rw [if_neg c10] at H
      have c10b0 : decide (x7_1 < (l0.length : Int)) = false := decide_eq_false c10
      clear c10
      simp only [Option.some.injEq, Prod.mk.injEq] at H
      obtain ⟨rfl, rfl, rfl⟩ := H
      go_wp2
      go_ret3
      exact ⟨by first | rfl | (simp [q0c, q0b] <;> rfl) | (simp [*, q0c, q0b] <;> rfl), by repeat (first | (with_reducible first | exact HB.out | apply q02 | apply q00 | apply q01 | refine q09 ?_ GE167.out) | exact HB.out)⟩
  ·rw [if_neg c5] at H
   have c5b0 : (t173 == 0) = false := beq_eq_false_iff_ne.mpr c5
   have c5b1 : (t173 != 0) = true := bne_iff_ne.mpr c5
   simp only [Option.some.injEq, Prod.mk.injEq] at H
   obtain ⟨rfl, rfl, rfl⟩ := H
   go_enter Try.func34, Try.ntmps34
   try go_wp2_with (first | ((with_reducible refine q0q (N := 3) rfl ?_); (try (refine q0v (by rfl) ?_; dsimp only)); refine q0r ?hg (N := 3) ?hd (cs := #[.int .i64 a1_0, .int .i64 a1_1, .int .i64 a1_2]) (t := 41) ?hr ?_; (case hd => rfl); (case hg => rfl); (case hr => first | (go_simp; done) | (go_simp; rfl)); intro gb167 hg w28 hbox hb; have n0_ := q04.mk (q0a (by repeat (first | (with_reducible first | exact HB.out | apply q02 | apply q00 | apply q01) | exact HB.out)) hb); have n1_ := q04.mk (hbox); have n2_ := q04.mk ((by rw [hg]; exact (q0e (by repeat (first | (with_reducible first | exact HB.out | apply q02 | apply q00 | apply q01) | exact HB.out))) : w.heap.size ≤ gb167)); have n3_ := q04.mk ((by rw [hg]; exact (q0e (by repeat (first | (with_reducible first | exact HB.out | apply q02 | apply q00 | apply q01) | exact HB.out))) : w.heap.size ≤ gb167)); clear HB; have HB := n0_; have BK167 := n1_; have GW167 := n2_; have GE167 := n3_; clear n0_ n1_ n2_ n3_; clear hb hbox hg))
   have n0_ := q04.mk (q08 BK167.out)
   have n1_ := q04.mk (q01 HB.out)
   clear BK167
   clear HB
   have BK167 := n0_
   have HB := n1_
   clear n0_ n1_
   have q30 : (1 : Int) ≤ ((l0.length : Int) : Int) := of_decide_eq_true (by first | (with_reducible assumption) | assumption)
   obtain ⟨i030, hi030, _, hsz30, _⟩ := info_parts info28
   have hroom30 : l0.length ≤ c0 := HC0.out
   have hC30 : Kd.C k28 _ A0 l0.length l0 := HR0.out
   have hcut30 := cut_to (P := Try.prog) 32 28 .i64 Try.underlying32 hi030 A0 l0.length c0 1 (by omega) q30 hroom30
   have hr30 := Kd.C_take (m := 1) hC30 (by omega)
   have hy30 : y168.length = (1 : Int).toNat := (by rw [Ny168.out, List.length_take]; omega)
   rw [← Ny168.out] at hr30
   rw [← hy30] at hcut30
   have HR171 := q04.mk hr30
   have HC171 := q04.mk (show y168.length ≤ c0 from by omega)
   clear hr30 hC30 hroom30 hi030 hsz30
   have KY30 := q04.mk hy30
   clear hy30
   replace q30 := eq_true q30
   refine start_ (n := 10) (S := fun w' => w'.cell? ⟨gb167, 0, none⟩ = some (.int .i64 a1_0) ∧ w'.cell? ⟨gb167, 1, none⟩ = some (.int .i64 a1_1) ∧ w'.cell? ⟨gb167, 2, none⟩ = some (.int .i64 a1_2)) (ds := []) #[false, false, false, false, false, false, false, false, false, false] (by kernel_rfl) rfl rfl ⟨(q03 BK167.out 0).trans rfl, (q03 BK167.out 1).trans rfl, (q03 BK167.out 2).trans rfl⟩ (fun hHeld => ?_); refine q16 table_cut.tab2 table_cut.bits2 (fun HT_ HW_ => ?_)
   generalize w28.drew = w29 at BK167 HB HR171 hHeld ⊢
   refine pure_ (i := 0) (N := some 13) (v := ?_) (a' := ?_) #[true, false, false, false, false, false, false, false, false, false] rfl rfl (q0j HT_.out (by kernel_rfl)) (fun _ _ _ h => h) (Or.inl ⟨by rfl, ?_⟩) ?_ ?_
   rotate_left
   ·intro w'
    go_simp
    with_reducible rfl
   rotate_left
   ·simp only [Act.put, qa22, qb22, qc22, i64_w, i32_w]
    rfl
   refine pure_ (i := 1) (N := some 14) (v := ?_) (a' := ?_) #[true, true, false, false, false, false, false, false, false, false] rfl rfl (q0j HT_.out (by kernel_rfl)) (fun _ _ _ h => h) (Or.inl ⟨by rfl, ?_⟩) ?_ ?_
   rotate_left
   ·intro w'
    go_simp
    with_reducible rfl
   rotate_left
   ·simp only [Act.put, qa22, qb22, qc22, i64_w, i32_w]
    rfl
   refine pure_ (i := 2) (N := some 15) (v := ?_) (a' := ?_) #[true, true, true, false, false, false, false, false, false, false] rfl rfl (q0j HT_.out (by kernel_rfl)) (fun _ _ _ h => h) (Or.inl ⟨by rfl, ?_⟩) ?_ ?_
   rotate_left
   ·intro w'
    go_simp
    with_reducible rfl
   rotate_left
   ·simp only [Act.put, qa22, qb22, qc22, i64_w, i32_w]
    rfl
   refine take_ (i := 3) (N := some 16) (v := ?_) (a' := ?_) #[true, true, true, true, false, false, false, false, false, false] rfl rfl (q0w HT_.out HW_.out (by kernel_rfl)) (fun _ _ _ h => h) (Or.inl ⟨by rfl, ?_⟩) hHeld ?_ ?_
   rotate_left
   ·rintro w' ⟨s0, s1, s2⟩
    go_simp
    with_reducible rfl
   rotate_left
   ·simp only [Act.put, qa22, qb22, qc22, i64_w, i32_w]
    rfl
   refine one_ (i := 4) (N := some 17) #[true, true, true, true, true, false, false, false, false, false] rfl rfl (q13 HT_.out (by kernel_rfl)) (by decide) (fun K hK => ?_)
   refine goes_ Try.func38 (by kernel_rfl) rfl #[.slice A0 y168.length c0, .int .i64 a1_1] (by rfl) rfl rfl (by (try simp only [List.map_toArray, List.map_cons, List.map_nil]); first | done | rfl | (simp only [List.length_drop, List.length_take]; rfl)) ?_
   with_reducible refine (block_Build.calls _ _ y168 a1_1 t172 t173 _ ?side1 ?side2 A4.out).mono ?_
   (case side1 => repeat (first | exact (Kd.C_below HR171.out HB.out) | (with_reducible refine Kd.C_alloc ?_ _) | (with_reducible refine Kd.C_drewN ?_ _) | (with_reducible refine Kd.C_drew ?_)))
   (case side2 => exact HC171.out)
   rintro e w31 ⟨rfl, hb⟩
   refine ⟨_, rfl, ?_⟩
   have n0_ := q04.mk (q0f (g := gb167) (o := .cells #[.int .i64 a1_0, .int .i64 a1_1, .int .i64 a1_2] 41 (0, 0)) (by (with_reducible repeat (first | refine q07 ?_ _ | refine q08 ?_ | refine q06 ?_ _)); exact BK167.out) hb)
   have n1_ := q04.mk (q0a (by repeat (first | (with_reducible first | exact HB.out | apply q02 | apply q00 | apply q01 | refine q09 ?_ GE167.out) | exact HB.out)) hb)
   clear BK167
   clear HB
   have BK167 := n0_
   have HB := n1_
   clear n0_ n1_
   (try clear hb)
   (try clear hb2)
   (try clear hk)
   (try clear hi)
   refine hK.out _ _ ⟨(q03 BK167.out 0).trans rfl, (q03 BK167.out 1).trans rfl, (q03 BK167.out 2).trans rfl⟩ (fun hHeld => ?_)
   clear hK K
   refine norm_ (a' := ?_) ?_ ?_
   rotate_left
   ·show Act.put _ (some 17) _ = _
    simp only [Act.put, qa22, qb22, qc22, i64_w, i32_w]
    rfl
   refine pure_ (i := 5) (N := some 12) (v := ?_) (a' := ?_) #[true, true, true, true, true, true, false, false, false, false] rfl rfl (q0j HT_.out (by kernel_rfl)) (fun _ _ _ h => h) (Or.inl ⟨by rfl, ?_⟩) ?_ ?_
   rotate_left
   ·intro w'
    go_simp
    with_reducible rfl
   rotate_left
   ·simp only [Act.put, qa22, qb22, qc22, i64_w, i32_w]
    rfl
   refine pure_ (i := 6) (N := some 18) (v := ?_) (a' := ?_) #[true, true, true, true, true, true, true, false, false, false] rfl rfl (q0j HT_.out (by kernel_rfl)) (fun _ _ _ h => h) (Or.inl ⟨by rfl, ?_⟩) ?_ ?_
   rotate_left
   ·intro w'
    go_simp
    with_reducible rfl
   rotate_left
   ·simp only [Act.put, qa22, qb22, qc22, i64_w, i32_w]
    rfl
   refine pure_ (i := 7) (N := some 19) (v := ?_) (a' := ?_) #[true, true, true, true, true, true, true, true, false, false] rfl rfl (q0j HT_.out (by kernel_rfl)) (fun _ _ _ h => h) (Or.inl ⟨by rfl, ?_⟩) ?_ ?_
   rotate_left
   ·intro w'
    go_simp
    with_reducible rfl
   rotate_left
   ·simp only [Act.put, qa22, qb22, qc22, i64_w, i32_w]
    rfl
   refine pure_ (i := 8) (N := some 8) (v := ?_) (a' := ?_) #[true, true, true, true, true, true, true, true, true, false] rfl rfl (q0j HT_.out (by kernel_rfl)) (fun _ _ _ h => h) (Or.inl ⟨by rfl, ?_⟩) ?_ ?_
   rotate_left
   ·intro w'
    go_simp
    with_reducible rfl
   rotate_left
   ·simp only [Act.put, qa22, qb22, qc22, i64_w, i32_w]
    rfl
   refine pure_ (i := 9) (N := some 9) (v := ?_) (a' := ?_) #[true, true, true, true, true, true, true, true, true, true] rfl rfl (q0j HT_.out (by kernel_rfl)) (fun _ _ _ h => h) (Or.inl ⟨by rfl, ?_⟩) ?_ ?_
   rotate_left
   ·intro w'
    go_simp
    with_reducible rfl
   rotate_left
   ·simp only [Act.put, qa22, qb22, qc22, i64_w, i32_w]
    rfl
   refine done_ (q1u HT_.out (by kernel_rfl)) ?_
   try go_wp2
   go_ret3
   exact ⟨by first | rfl | (simp [q0c, q0b] <;> rfl) | (simp [*, q0c, q0b] <;> rfl), by repeat (first | (with_reducible first | exact HB.out | apply q02 | apply q00 | apply q01 | refine q09 ?_ GE167.out) | exact HB.out)⟩
 ·rw [if_neg c3] at H
  exact absurd H (by simp)
end Go.Proofs.Ytaigmemmgjlhgaa.Print
-- TabC
namespace Go.Proofs.Ytaigmemmgjlhgaa.Tab
open Go.RowKit Aid Txt Print PLink Block Bits Go.Proofs.YtaigmemmgjlhgaaW.PrintWords
def worstOf (x : Nat) (l : List PBlock.Row) : Nat := if ∃ r ∈ l, PBlock.check r = 2 then 2 else if ∃ r ∈ l, PBlock.check r = 3 then 3 else x
theorem worstOf_cons (x : Nat) (r : PBlock.Row) (l : List PBlock.Row) : worstOf x (r :: l) = if PBlock.check r = 2 then 2 else if PBlock.check r = 0 then worstOf x l else worstOf 3 l := by
 unfold worstOf
 rcases q1l r with h | h | h
 ·rw [if_neg (show ¬ PBlock.check r = 2 by omega), if_pos h]
  simp [h]
 ·rw [if_pos h, if_pos ⟨r, by simp, h⟩]
 ·rw [if_neg (show ¬ PBlock.check r = 2 by omega), if_neg (show ¬ PBlock.check r = 0 by omega)]
  simp only [List.mem_cons, exists_eq_or_imp, h, Nat.reduceEqDiff, false_or, true_or, if_true]
  split
  ·rfl
  ·split <;> rfl
theorem right_loop (l : List S28) (hl : ∀ x ∈ l, Fit x) (hs : l.length ≤ 1000000) (d : Nat) : ∀ (i x : Nat), i + d = l.length → Ev (fun k => table_right.l0 k (x : Int) l (l.length : Int) (i : Int)) (worstOf x ((l.map rowS).drop i) : Int) := by
 induction d with
 | zero =>
  intro i x hi
  refine Ev.step (f := fun _ => some (x : Int)) (fun k => ?_) ?_
  ·simp only [table_right.l0]
   rw [if_neg (by omega)]
  ·rw [List.drop_eq_nil_of_le (by rw [List.length_map]; omega)]
   exact Ev.now _
 | succ d ih =>
  intro i x hi
  have hlt : i < l.length := by omega
  have e0 : q0i l (i : Int) = l[i] := q1h l i hlt
  have e1 : wrap64 ((i : Int) + 1) = ((i + 1 : Nat) : Int) := by rw [q0u (by omega) (by omega)]; omega
  have hd : (l.map rowS).drop i = rowS l[i] :: (l.map rowS).drop (i + 1) := by rw [List.drop_eq_getElem_cons (by rw [List.length_map]; exact hlt), List.getElem_map]
  rw [hd, worstOf_cons]
  have hc : ∀ k, block_Check.f (k + 3) l[i].f0 l[i].f1 l[i].f2 l[i].f3 = some ((PBlock.check (rowS l[i]) : Nat) : Int) := fun k => check_eq l[i] (hl _ (List.getElem_mem hlt)) k
  have hE : Ev (fun k => block_Check.f k l[i].f0 l[i].f1 l[i].f2 l[i].f3) ((PBlock.check (rowS l[i]) : Nat) : Int) := ⟨3, fun k hk => by obtain ⟨j, rfl⟩ : ∃ j, k = j + 3 := ⟨k - 3, by omega⟩; exact hc j⟩
  refine Ev.step (f := fun k => (block_Check.f k l[i].f0 l[i].f1 l[i].f2 l[i].f3).bind fun t => if t = 2 then some t else if t = 0 then table_right.l0 k (x : Int) l (l.length : Int) ((i + 1 : Nat) : Int) else table_right.l0 k t l (l.length : Int) ((i + 1 : Nat) : Int)) (fun k => ?_) ?_
  ·simp only [table_right.l0]
   rw [if_pos (by omega), if_pos (by omega), if_pos (by omega), e0, e1]
  ·refine Ev.bind hE ?_
   rcases q1l (rowS l[i]) with h | h | h
   ·rw [h]
    exact Ev.congr (fun k => by rw [if_neg (by omega), if_pos (by omega)]) (ih (i + 1) x (by omega))
   ·rw [h]
    exact Ev.congr (fun k => by rw [if_pos (by omega)]; rfl) (Ev.now _)
   ·rw [h]
    exact Ev.congr (fun k => by rw [if_neg (by omega), if_neg (by omega)]) (ih (i + 1) 3 (by omega))
theorem right_ev (l : List S28) (hl : ∀ x ∈ l, Fit x) (hs : l.length ≤ 1000000) (B R Q : Int) : Ev (fun k => table_right.f k l B R Q) (PTable.right (l.map rowS) B R Q : Int) := by
 have bad : ∀ b, b = true → Ev (fun k => table_right.j0 k l b) (2 : Int) := fun b hb => by
  subst hb
  exact Ev.step (f := fun _ => some (2 : Int)) (fun k => by simp only [table_right.j0, if_true]) (Ev.now _)
 have two : (B < 64 ∨ 16384 < B ∨ R < 1 ∨ 64 < R ∨ Q < 1 ∨ 32 < Q ∨ PBlock.order (l.map rowS) = false) → (PTable.right (l.map rowS) B R Q : Int) = 2 := fun h => by
  unfold PTable.right
  rw [if_pos]
  ·rfl
  ·rcases h with h | h | h | h | h | h | h <;> simp [h]
 unfold table_right.f
 by_cases c1 : B < 64
 ·rw [two (by omega)]; exact Ev.congr (fun k => if_pos c1) (bad _ rfl)
 refine Ev.congr (fun k => if_neg c1) ?_
 by_cases c2 : B > 16384
 ·rw [two (by omega)]; exact Ev.congr (fun k => if_pos c2) (bad _ rfl)
 refine Ev.congr (fun k => if_neg c2) ?_
 by_cases c3 : R < 1
 ·rw [two (by omega)]; exact Ev.congr (fun k => if_pos c3) (bad _ rfl)
 refine Ev.congr (fun k => if_neg c3) ?_
 by_cases c4 : R > 64
 ·rw [two (by omega)]; exact Ev.congr (fun k => if_pos c4) (bad _ rfl)
 refine Ev.congr (fun k => if_neg c4) ?_
 by_cases c5 : Q < 1
 ·rw [two (by omega)]; exact Ev.congr (fun k => if_pos c5) (bad _ rfl)
 refine Ev.congr (fun k => if_neg c5) ?_
 by_cases c6 : Q > 32
 ·rw [two (by omega)]; exact Ev.congr (fun k => if_pos c6) (bad _ rfl)
 refine Ev.congr (fun k => if_neg c6) ?_
 refine Ev.bind (order_eq l hl (by omega)) ?_
 cases ho : PBlock.order (l.map rowS) with
 | false => rw [two (by simp [ho])]; exact bad _ rfl
 | true =>
  have e : (PTable.right (l.map rowS) B R Q : Nat) = worstOf 0 (l.map rowS) := by
   unfold PTable.right worstOf
   have : (B < 64 ∨ 16384 < B ∨ R < 1 ∨ 64 < R ∨ Q < 1 ∨ 32 < Q ∨ PBlock.order (l.map rowS) = false ∨ ∃ r ∈ l.map rowS, PBlock.check r = 2) ↔ (∃ r ∈ l.map rowS, PBlock.check r = 2) := by
    rw [ho]
    constructor
    ·rintro (h | h | h | h | h | h | h | h)
     all_goals first | omega | (cases h; done) | exact h
    ·intro h; exact .inr (.inr (.inr (.inr (.inr (.inr (.inr h))))))
   simp only [this]
  rw [e]
  have hr := right_loop l hl hs l.length 0 0 (by omega)
  rw [List.drop_zero] at hr
  refine Ev.step (fun k => ?_) hr
  simp only [table_right.j0, Bool.not_true, Bool.false_eq_true, if_false]
  rfl
theorem right_any (l : List S28) (hl : ∀ x ∈ l, Fit x) (hs : l.length ≤ 1000000) (A0 : Option Addr) (c0 : Nat) (hc0 : l.length ≤ c0) (B R Q : Int) (w : World) (hr0 : Kd.C k28 w A0 l.length l) :
  Calls Try.prog 31 #[.slice A0 l.length c0, .agg #[.int .i64 B, .int .i64 R, .int .i64 Q]] w fun e w' => e = .returned (.int .i64 (PTable.right (l.map rowS) B R Q : Nat)) ∧ Below w.heap.size w w' := by
 obtain ⟨k, hk⟩ := (right_ev l hl hs B R Q).rounds
 exact table_right.calls k A0 c0 l B R Q _ w hr0 hc0 hk
theorem cut_loop (l : List S28) (hl : ∀ x ∈ l, Fit x) (hs : l.length ≤ 1000000) (B R Q : Int) (hR : 1 ≤ R ∧ R ≤ 64) (d : Nat) : ∀ n : Nat, 1 ≤ n → n ≤ l.length → l.length ≤ n + d →
  Ev (fun k => table_cut.l0 k l (n : Int) (Txt.B (PBlock.build ((l.map rowS).take n) R).1) B R Q) ((PTable.cutAt (l.map rowS) B R d n : Nat), Txt.B (PBlock.build ((l.map rowS).take (PTable.cutAt (l.map rowS) B R d n)) R).1, (0 : Int)) := by
 induction d with
 | zero =>
  intro n h1 h2 h3
  refine Ev.step (f := fun _ => some ((n : Int), Txt.B (PBlock.build ((l.map rowS).take n) R).1, (0 : Int))) (fun k => ?_) (Ev.now _)
  simp only [table_cut.l0]
  rw [if_neg (by omega)]
 | succ d ih =>
  intro n h1 h2 h3
  rw [PTable.cutAt, List.length_map]
  by_cases hlt : n < l.length
  ·have e1 : wrap64 ((n : Int) + 1) = ((n + 1 : Nat) : Int) := by rw [q0u (by omega) (by omega)]; omega
   have hb := block_Build.eq (l.take (n + 1)) R ⟨fun x hx => ⟨(hl x (List.mem_of_mem_take hx)).s0, (hl x (List.mem_of_mem_take hx)).s1⟩, by rw [List.length_take]; omega, by omega, by omega⟩
   rw [List.map_take] at hb
   have hf : PTable.fits (l.map rowS) B R (n + 1) = ((PBlock.build ((l.map rowS).take (n + 1)) R).2 == 0 && decide (((PBlock.build ((l.map rowS).take (n + 1)) R).1.length : Int) ≤ B)) := rfl
   have ih1 := ih (n + 1) (by omega) (by omega) (by omega)
   have key : ∀ k, table_cut.l0 (k + 1) l (n : Int) (Txt.B (PBlock.build ((l.map rowS).take n) R).1) B R Q = (if ((PBlock.build ((l.map rowS).take (n + 1)) R).2 : Int) = 0 then (if ((PBlock.build ((l.map rowS).take (n + 1)) R).1.length : Int) > B then some ((n : Int), Txt.B (PBlock.build ((l.map rowS).take n) R).1, (0 : Int)) else table_cut.l0 k l ((n + 1 : Nat) : Int) (Txt.B (PBlock.build ((l.map rowS).take (n + 1)) R).1) B R Q) else some ((n : Int), Txt.B (PBlock.build ((l.map rowS).take n) R).1, (0 : Int))) := by
    intro k
    simp only [table_cut.l0]
    rw [if_pos (by omega), e1, if_pos (by omega), if_pos (by omega), Int.toNat_natCast, hb, Option.bind_some]
    dsimp only
    rw [q0n]
   generalize PBlock.build ((l.map rowS).take (n + 1)) R = r at key ih1 hf
   by_cases c1 : r.2 = 0
   ·by_cases c2 : (r.1.length : Int) ≤ B
    ·rw [if_pos ⟨hlt, by rw [hf, c1]; simp [c2]⟩]
     refine Ev.step (fun k => ?_) ih1
     rw [key, if_pos (by omega), if_neg (by omega)]
    ·rw [if_neg (fun h => c2 (by have := h.2; rw [hf] at this; simp only [Bool.and_eq_true, decide_eq_true_eq] at this; exact this.2))]
     refine Ev.step (f := fun _ => some ((n : Int), Txt.B (PBlock.build ((l.map rowS).take n) R).1, (0 : Int))) (fun k => ?_) (Ev.now _)
     rw [key, if_pos (by omega), if_pos (by omega)]
   ·rw [if_neg (fun h => c1 (by have := h.2; rw [hf] at this; simp only [Bool.and_eq_true, beq_iff_eq] at this; exact this.1))]
    refine Ev.step (f := fun _ => some ((n : Int), Txt.B (PBlock.build ((l.map rowS).take n) R).1, (0 : Int))) (fun k => ?_) (Ev.now _)
    rw [key, if_neg (by omega)]
  ·rw [if_neg (fun h => hlt h.1)]
   refine Ev.step (f := fun _ => some ((n : Int), Txt.B (PBlock.build ((l.map rowS).take n) R).1, (0 : Int))) (fun k => ?_) (Ev.now _)
   simp only [table_cut.l0]
   rw [if_neg (by omega)]
theorem cut_ev (l : List S28) (hl : ∀ x ∈ l, Fit x) (hs : l.length ≤ 1000000) (h0 : l ≠ []) (B R Q : Int) (hR : 1 ≤ R ∧ R ≤ 64) (h1 : (PBlock.build ((l.map rowS).take 1) R).2 = 0) :
  Ev (fun k => table_cut.f k l B R Q) ((PTable.cut (l.map rowS) B R : Nat), Txt.B (PBlock.build ((l.map rowS).take (PTable.cut (l.map rowS) B R)) R).1, (0 : Int)) := by
 have hpos := List.length_pos_iff.2 h0
 have hb := block_Build.eq (l.take 1) R ⟨fun x hx => ⟨(hl x (List.mem_of_mem_take hx)).s0, (hl x (List.mem_of_mem_take hx)).s1⟩, by rw [List.length_take]; omega, by omega, by omega⟩
 rw [List.map_take] at hb
 have h := cut_loop l hl hs B R Q hR l.length 1 (by omega) (by omega) (by omega)
 unfold PTable.cut
 rw [List.length_map]
 refine Ev.congr (fun k => ?_) h
 unfold table_cut.f
 rw [if_pos (by omega), hb, Option.bind_some]
 dsimp only
 rw [if_pos (by omega)]
 rfl
theorem cut_any (l : List S28) (hl : ∀ x ∈ l, Fit x) (hs : l.length ≤ 1000000) (h0 : l ≠ []) (A0 : Option Addr) (c0 : Nat) (hc0 : l.length ≤ c0) (B R Q : Int) (hR : 1 ≤ R ∧ R ≤ 64) (h1 : (PBlock.build ((l.map rowS).take 1) R).2 = 0) (w : World) (hr0 : Kd.C k28 w A0 l.length l) :
  Calls Try.prog 34 #[.slice A0 l.length c0, .agg #[.int .i64 B, .int .i64 R, .int .i64 Q]] w fun e w' => e = .returned (.tuple #[.int .i64 (PTable.cut (l.map rowS) B R : Nat), .string (Txt.B (PBlock.build ((l.map rowS).take (PTable.cut (l.map rowS) B R)) R).1), .int .i64 0]) ∧ Below w.heap.size w w' := by
 obtain ⟨k, hk⟩ := (cut_ev l hl hs h0 B R Q hR h1).rounds
 exact table_cut.calls k A0 c0 l B R Q _ _ _ w hr0 hc0 hk
end Go.Proofs.Ytaigmemmgjlhgaa.Tab
-- TabB
namespace Go.Proofs.Ytaigmemmgjlhgaa.Tab
open Go.RowKit Aid Txt Print PLink Block Bits Go.Proofs.YtaigmemmgjlhgaaW.PrintWords
structure BS (w wr : World) (bo : Nat) (v : Value) (xs : ByteArray) (v8 : Value) (idx : List S28) (v9 : Value) (ks : List ByteArray) (B R Q : Int) : Prop where
 out : Out w wr bo v xs
 idx : Kd.R k28 28 wr w.heap.size (fun _ => True) v8 idx
 keys : Kd.R Kd.string 9 wr w.heap.size (fun _ => True) v9 ks
 opt : Blk wr w.heap.size 41 #[.int .i64 B, .int .i64 R, .int .i64 Q]
section
variable {w wr w' : World} {bo : Nat} {v v8 v9 : Value} {xs : ByteArray} {idx : List S28} {ks : List ByteArray} {B R Q : Int}
theorem Out.grown {t : TypeId} (h : Out w wr bo v xs) {row : Option Nat} (hg : wr.grownBy w' row) (hr : ∀ k, row = some k → ∃ cells, wr.heap[k]? = some (.cells cells t (0, 0))) (ht : t ≠ 55 ∧ t ≠ 5) (low : Below w.heap.size w w') : Out w w' bo v xs := by
 have n1 : some bo ≠ row := fun e => by
  obtain ⟨cells, hc⟩ := hr bo e.symm
  have := h.out
  unfold Blk at this
  rw [hc] at this
  simp only [Option.some.injEq, Obj.cells.injEq] at this
  exact ht.1 this.2.1
 refine ⟨h.out.grown hg n1, ?_, h.g, low⟩
 cases row with
 | none => exact h.row.kept hg (by cases e : v.ownBlock with | none => exact .inl rfl | some k => exact .inr (by simp))
 | some k =>
  refine own_far h.row hg fun e => ?_
  obtain ⟨cells, hc⟩ := hr k rfl
  obtain ⟨cells2, hc2⟩ := own_typed h.row k e
  rw [hc] at hc2
  simp only [Option.some.injEq, Obj.cells.injEq] at hc2
  exact ht.2 hc2.2.1
theorem BS.below (h : BS w wr bo v xs v8 idx v9 ks B R Q) (hb : Below wr.heap.size wr w') : BS w w' bo v xs v8 idx v9 ks B R Q :=
 ⟨h.out.below hb, Kd.R_below h.idx hb, Kd.R_below h.keys hb, h.opt.below hb h.opt.lt⟩
theorem BS.low (h : BS w wr bo v xs v8 idx v9 ks B R Q) : Below w.heap.size w wr := h.out.low
theorem kept_row {α : Type} {d : Kd α} {e base : Nat} {u : Value} {ys : List α} (hE : ∀ q, q ∈ e :: d.E → q ≠ 55 ∧ q ≠ 5) (h : Out w wr bo v xs) (hk : Kept wr w' bo v) (hr : Kd.R d e wr base (fun _ => True) u ys) : Kd.R d e w' base (fun _ => True) u ys := by
 refine Kd.R_mono (Kd.R_step (Kd.R_bound hr) (fun k ho hlt => hk.block k hlt ?_ ?_)) (fun _ _ => trivial)
 ·rintro rfl
  obtain ⟨_, _, _, q, hq, cells, hc⟩ := ho
  have := h.out
  unfold Blk at this
  rw [hc] at this
  simp only [Option.some.injEq, Obj.cells.injEq] at this
  exact (hE q hq).1 this.2.1
 ·intro e
  obtain ⟨_, _, _, q, hq, cells, hc⟩ := ho
  obtain ⟨cells2, hc2⟩ := own_typed h.row k e.symm
  rw [hc] at hc2
  simp only [Option.some.injEq, Obj.cells.injEq] at hc2
  exact (hE q hq).2 hc2.2.1
theorem BS.add (h : BS w wr bo v xs v8 idx v9 ks B R Q) {v' : Value} {xs' : ByteArray} (ho : Out w w' bo v' xs') (hk : Kept wr w' bo v) : BS w w' bo v' xs' v8 idx v9 ks B R Q := by
 refine ⟨ho, kept_row (by intro q hq; rw [List.mem_singleton.1 hq]; decide) h.out hk h.idx, kept_row (by intro q hq; rw [List.mem_singleton.1 hq]; decide) h.out hk h.keys, ?_⟩
 refine (hk.block _ h.opt.lt ?_ ?_).trans h.opt
 ·exact fun e => (h.opt.ne_ h.out.out (by decide)) e
 ·exact fun e => q12 h.out.row h.opt (by decide) e.symm
theorem BS.key (h : BS w wr bo v xs v8 idx v9 ks B R Q) {v9' : Value} {ks' : List ByteArray} (hr : Kd.R Kd.string 9 w' w.heap.size (fun _ => True) v9' ks') (hg : wr.grownBy w' v9.ownBlock) (low : Below w.heap.size w w') : BS w w' bo v xs v8 idx v9' ks' B R Q := by
 refine ⟨h.out.grown hg (Kd.R_typed h.keys) (by decide) low, Kd.R_over' h.idx (Kd.R_typed h.keys) (by intro q hq; rw [List.mem_singleton.1 hq]; decide) hg, hr, h.opt.grown hg fun e => ?_⟩
 exact Kd.R_ne h.keys h.opt (by decide) e
theorem BS.row (h : BS w wr bo v xs v8 idx v9 ks B R Q) {v8' : Value} {idx' : List S28} (hr : Kd.R k28 28 w' w.heap.size (fun _ => True) v8' idx') (hg : wr.grownBy w' v8.ownBlock) (low : Below w.heap.size w w') : BS w w' bo v xs v8' idx' v9 ks B R Q := by
 refine ⟨h.out.grown hg (Kd.R_typed h.idx) (by decide) low, hr, Kd.R_over' h.keys (Kd.R_typed h.idx) (by intro q hq; rw [List.mem_singleton.1 hq]; decide) hg, h.opt.grown hg fun e => ?_⟩
 exact Kd.R_ne h.idx h.opt (by decide) e
end
theorem cellLow {w w' : World} {p : Addr} {v : Value} (hb : Below w.heap.size w w') (hlt : p.block < w.heap.size) (h : w.cell? p = some v) : w'.cell? p = some v := (hb.cell hlt).trans h
theorem bodyOf_ge (R : Int) (a b : List (List PBlock.Row)) : (PTable.bodyOf R a).length ≤ (PTable.bodyOf R (a ++ b)).length := by
 unfold PTable.bodyOf
 rw [List.map_append, List.flatten_append, List.length_append]
 omega
theorem whole_ge (R : Int) (cs : List (List PBlock.Row)) (F : List UInt8) : (PTable.bodyOf R cs).length ≤ (PTable.whole R cs F).length := by
 unfold PTable.whole
 simp only [List.length_append]
 omega
theorem q1x {l : List PBlock.Row} {B R Q : Int} {F : List UInt8} (h : PTable.right l B R Q = 0) (h2 : (PBlock.build (PTable.index R (PTable.chunks l B R)) 1).2 ≠ 0 ∨ 262144 < (PTable.whole R (PTable.chunks l B R) F).length) : PTable.table l B R Q F = ([], 3) := by
 unfold PTable.table
 rw [if_neg (fun e => e h), if_pos h2]
def keysB (l : List S28) (i : Nat) : List ByteArray := (PTable.keysTo (l.map rowS) i).map Txt.B
theorem keyAt (l : List S28) (i : Nat) (h : i < l.length) : ((l.map rowS).getD i PTable.zeroRow).key = L l[i].f0 := by
 rw [List.getD_eq_getElem?_getD, List.getElem?_map, List.getElem?_eq_getElem h]
 rfl
theorem keysB_zero (l : List S28) (h : 0 < l.length) : keysB l 1 = keysB l 0 ++ [l[0].f0] := by
 unfold keysB
 have e : PTable.keysTo (l.map rowS) 1 = PTable.keysTo (l.map rowS) 0 ++ [((l.map rowS).getD 0 PTable.zeroRow).key] := by
  show PTable.keysTo (l.map rowS) 0 ++ (if 0 = 0 ∨ ((l.map rowS).getD (0 - 1) PTable.zeroRow).key ≠ ((l.map rowS).getD 0 PTable.zeroRow).key then [((l.map rowS).getD 0 PTable.zeroRow).key] else []) = _
  rw [if_pos (Or.inl rfl)]
 rw [e, keyAt l 0 h, List.map_append]
 simp [B_L]
theorem keysB_new (l : List S28) (i : Nat) (h : i + 1 < l.length) (hne : l[i].f0 ≠ l[i + 1].f0) : keysB l (i + 2) = keysB l (i + 1) ++ [l[i + 1].f0] := by
 unfold keysB
 rw [PTable.keysTo, if_pos, keyAt l (i + 1) h, List.map_append]
 ·simp [B_L]
 ·rw [show i + 1 - 1 = i by omega, keyAt l i (by omega), keyAt l (i + 1) h]
  exact .inr fun e => hne (L_inj e)
theorem keysB_same (l : List S28) (i : Nat) (h : i + 1 < l.length) (he : l[i].f0 = l[i + 1].f0) : keysB l (i + 2) = keysB l (i + 1) := by
 unfold keysB
 rw [PTable.keysTo, if_neg, List.append_nil]
 rw [show i + 1 - 1 = i by omega, keyAt l i (by omega), keyAt l (i + 1) h, he]
 simp
def sliceLen : Value → Nat
 | .slice _ n _ => n
 | _ => 0
theorem right_zero {l : List PBlock.Row} {B R Q : Int} (h : PTable.right l B R Q = 0) : 64 ≤ B ∧ B ≤ 16384 ∧ 1 ≤ R ∧ R ≤ 64 ∧ 1 ≤ Q ∧ Q ≤ 32 ∧ PBlock.order l = true ∧ ∀ r ∈ l, PBlock.check r = 0 := by
 unfold PTable.right at h
 split at h
 ·omega
 ·rename_i h1
  split at h
  ·omega
  ·rename_i h2
   refine ⟨by omega, by omega, by omega, by omega, by omega, by omega, ?_, fun r hr => ?_⟩
   ·cases e : PBlock.order l with
    | true => rfl
    | false => exact absurd (.inr (.inr (.inr (.inr (.inr (.inr (.inl e))))))) h1
   ·rcases q1l r with e | e | e
    ·exact e
    ·exact absurd (.inr (.inr (.inr (.inr (.inr (.inr (.inr ⟨r, hr, e⟩))))))) h1
    ·exact absurd ⟨r, hr, e⟩ h2
theorem one_ok {l : List PBlock.Row} (hc : ∀ r ∈ l, PBlock.check r = 0) (R : Int) (h1 : 1 ≤ R) (h2 : R ≤ 64) : (PBlock.build (l.take 1) R).2 = 0 := by
 cases l with
 | nil =>
  rw [List.take_nil, PBlock.build_of h1 h2 rfl (by simp) (by simp) (by rw [PBlock.whole_length]; simp [PBlock.enc, PBlock.ends])]
 | cons r l =>
  rw [show (r :: l).take 1 = [r] from rfl]
  have hr := hc r (by simp)
  rw [PBlock.build_of h1 h2 rfl (by simpa using hr) (by simp) ?_]
  rw [PBlock.whole_length]
  have a := PBlock.ends_length_le R.toNat [r] 0 0 []
  have b : (PBlock.enc R.toNat 0 [] [r]).length ≤ 3000 := by
   have := PBlock.rowEnc_le r [] hr
   simpa [PBlock.enc] using this
  rw [List.length_singleton] at a
  omega
theorem entry_row (rest : List S28) (hf : ∀ x ∈ rest, Fit x) (n n' : Nat) (hn : n' + 1 = n) (h : n' < rest.length) (h0 : 0 < rest.length) (at_ : Nat) :
  rowB (PTable.entry at_ ((rest.map rowS).take n)) = ⟨rest[n'].f0, rest[n'].f1, 1, Txt.B (PCode.putField (L rest[0].f0)) ++ Txt.B (PCode.putUint at_) ++ Txt.B (PCode.putUint n)⟩ := by
 have hlen : ((rest.map rowS).take n).length = n := by rw [List.length_take, List.length_map]; omega
 have e1 : ((rest.map rowS).take n).getLastD PTable.zeroRow = rowS rest[n'] := by
  rw [List.getLastD_eq_getLast?, List.getLast?_eq_getElem?, hlen, List.getElem?_take, if_pos (by omega), List.getElem?_map, show n - 1 = n' by omega, List.getElem?_eq_getElem h]
  rfl
 have e2 : ((rest.map rowS).take n).headD PTable.zeroRow = rowS rest[0] := by
  rw [List.headD_eq_head?_getD, List.head?_take, if_neg (by omega), List.head?_map, List.head?_eq_getElem?, List.getElem?_eq_getElem h0]
  rfl
 unfold PTable.entry rowB
 rw [e1, e2, hlen]
 have h1 := (hf _ (List.getElem_mem h)).s0
 simp only [rowS, B_L]
 rw [show ((rest[n'].f1.toNat : Nat) : Int) = rest[n'].f1 by omega]
 congr 1
theorem index_length (R : Int) (cs : List (List PBlock.Row)) : (PTable.index R cs).length = cs.length := by
 unfold PTable.index
 generalize 0 = a
 induction cs generalizing a with
 | nil => rfl
 | cons c cs ih => rw [PTable.indexAt, List.length_cons, ih, List.length_cons]
theorem hchk0 (rest : List S28) (h0 : 0 < rest.length) (hc : ∀ r ∈ rest.map rowS, PBlock.check r = 0) : rest[0].f0.size ≤ 520 ∧ True := by
 have := (PBlock.check_ok (hc _ (List.mem_map_of_mem (List.getElem_mem h0)))).2.2.2.2.2.1
 rw [show (rowS rest[0]).key = L rest[0].f0 from rfl, q0g] at this
 exact ⟨this, trivial⟩
theorem keysTo_sub (l : List PBlock.Row) (i : Nat) (hi : i ≤ l.length) : ∀ k ∈ PTable.keysTo l i, ∃ r ∈ l, r.key = k := by
 induction i with
 | zero => intro k hk; cases hk
 | succ i ih =>
  intro k hk
  rw [PTable.keysTo, List.mem_append] at hk
  rcases hk with hk | hk
  ·exact ih (by omega) k hk
  ·split at hk
   ·rw [List.mem_singleton.1 hk, List.getD_eq_getElem?_getD, List.getElem?_eq_getElem (by omega)]
    exact ⟨_, List.getElem_mem (by omega), rfl⟩
   ·cases hk
theorem keysB_small (l : List S28) (hc : ∀ r ∈ l.map rowS, PBlock.check r = 0) : ∀ s ∈ keysB l l.length, s.size ≤ 520 := by
 intro s hs
 unfold keysB at hs
 obtain ⟨k, hk, rfl⟩ := List.mem_map.1 hs
 obtain ⟨r, hr, rfl⟩ := keysTo_sub _ _ (by rw [List.length_map]; exact Nat.le_refl _) k hk
 rw [q0n]
 exact (PBlock.check_ok (hc r hr)).2.2.2.2.2.1
theorem rowS_rowB (r : PBlock.Row) : rowS (rowB r) = r := by
 unfold rowS rowB
 simp [L_B]
theorem index_seq (R : Int) (cs : List (List PBlock.Row)) (h : ∀ c ∈ cs, ∀ r ∈ c, r.seq ≤ 72057594037927935) : ∀ r ∈ PTable.index R cs, r.seq ≤ 72057594037927935 := by
 unfold PTable.index
 generalize 0 = a
 induction cs generalizing a with
 | nil => intro r hr; cases hr
 | cons c cs ih =>
  intro r hr
  rw [PTable.indexAt] at hr
  rcases List.mem_cons.1 hr with rfl | hr
  ·show (c.getLastD PTable.zeroRow).seq ≤ _
   cases e : c.getLast? with
   | none => rw [List.getLastD_eq_getLast?, e]; exact Nat.zero_le _
   | some x => rw [List.getLastD_eq_getLast?, e]; exact h c (by simp) x (List.mem_of_getLast? e)
  ·exact ih (fun c hc => h c (List.mem_cons_of_mem _ hc)) _ r hr
theorem chunks_sub (l : List PBlock.Row) (B R : Int) : ∀ c ∈ PTable.chunks l B R, ∀ r ∈ c, r ∈ l := by
 unfold PTable.chunks
 generalize l.length = k
 induction k generalizing l with
 | zero => intro c hc; cases hc
 | succ k ih =>
  intro c hc r hr
  rw [PTable.chunksAt] at hc
  split at hc
  ·cases hc
  ·rcases List.mem_cons.1 hc with rfl | hc
   ·exact List.mem_of_mem_take hr
   ·exact List.mem_of_mem_drop (ih _ c hc r hr)
set_option maxRecDepth 100000 in
set_option maxHeartbeats 16000000 in
theorem build_any (l : List S28) (hl : ∀ x ∈ l, Fit x) (hs : l.length ≤ 1000) (A0 : Option Addr) (c0 : Nat) (hc0 : l.length ≤ c0) (B R Q : Int) (w : World) (hr0 : Kd.C k28 w A0 l.length l) :
  Calls Try.prog 16 #[.slice A0 l.length c0, .agg #[.int .i64 B, .int .i64 R, .int .i64 Q]] w fun e w' => e = .returned (.tuple #[.string (Txt.B (PTable.table (l.map rowS) B R Q (Bloom.filter Q.toNat (keysB l l.length))).1), .int .i64 ((PTable.table (l.map rowS) B R Q (Bloom.filter Q.toNat (keysB l l.length))).2 : Nat)]) ∧ Below w.heap.size w w' := by
 have HL := Lib.hid hl
 have HR := Lib.hid hr0
 have PR := Lib.hid (fun w' hr => right_any l hl (by omega) A0 c0 hc0 B R Q w' hr)
 clear hl hr0
 obtain ⟨T, hT⟩ : ∃ T, PTable.table (l.map rowS) B R Q (Bloom.filter Q.toNat (keysB l l.length)) = T := ⟨_, rfl⟩
 rw [hT]
 obtain ⟨rg, hrg⟩ : ∃ rg, PTable.right (l.map rowS) B R Q = rg := ⟨_, rfl⟩
 rw [hrg] at PR
 by_cases hr0 : rg ≠ 0
 ·have m1 : ((rg : Int) != 0) = true := by simp; omega
  have e1 : T = ([], rg) := by rw [← hT]; unfold PTable.table; rw [hrg, if_pos hr0]
  subst e1
  clear hT hrg
  go_enter Try.func16, Try.ntmps16
  go_wp2_with fail
  refine (PR.out _ (Kd.C_alloc HR.out _)).mono ?_
  rintro e w1 ⟨rfl, hb1⟩
  go_wp2_with fail
  go_ret2
  exact ⟨rfl, q0d ((Below.refl _ _).alloc (Nat.le_refl _) _) hb1⟩
 obtain rfl : rg = 0 := by omega
 clear hr0
 have HT := Lib.hid hT
 have HG := Lib.hid hrg
 clear hT hrg
 go_enter Try.func16, Try.ntmps16
 go_wp2_with fail
 have BO := Blk.new w 41 #[.int .i64 B, .int .i64 R, .int .i64 Q]
 refine (PR.out _ (Kd.C_alloc HR.out _)).mono ?_
 rintro e w1 ⟨rfl, hb1⟩
 have HB1 := q0d ((Below.refl w.heap.size w).alloc (Nat.le_refl _) _) hb1
 have BO1 := BO.below hb1 BO.lt
 clear hb1 BO
 go_wp2_with fail
 have hBS : BS w (w1.alloc (.cells #[.slice none 0 0] 55)) w1.heap.size (.slice none 0 0) ⟨#[]⟩ (.slice none 0 0) [] (.slice none 0 0) (keysB l 0) B R Q :=
  ⟨⟨Blk.new w1 _ _, ⟨rfl, .inl ⟨rfl, rfl⟩⟩, HB1.size, HB1.alloc HB1.size _⟩, Kd.R_nil _ _ _ _ _, Kd.R_nil _ _ _ _ _, BO1.alloc _⟩
 generalize w1.alloc _ = W0 at hBS ⊢
 generalize w1.heap.size = bo at hBS ⊢
 clear BO1 HB1 PR
 go_loopw [9, 32] (fun v9 v32 wr => ∃ i : Nat, i ≤ l.length ∧ v32 = .int .i64 i ∧ BS w wr bo (.slice none 0 0) ⟨#[]⟩ (.slice none 0 0) [] v9 (keysB l i) B R Q) (fun _ v32 _ => l.length - (intOf v32).toNat)
 case atStart => exact ⟨0, by omega, rfl, hBS⟩
 case round =>
  obtain ⟨i, hi, rfl, hS⟩ := hrel
  by_cases hlt : i < l.length
  ·have t1 : ((i : Int) < (l.length : Int)) = True := eq_true (by omega)
   have hCr := Kd.C_below HR.out hS.low
   obtain ⟨ad, rfl, k0, k1, k2, k3⟩ := q15 hCr (i : Int) (by omega) (by omega)
   rw [q1h l i hlt, Int.toNat_natCast] at k0 k1 k2 k3
   have hkl : (keysB l i).length ≤ 1000 := by unfold keysB; rw [List.length_map]; have := PTable.keysTo_length (l.map rowS) i; omega
   by_cases hz : i = 0
   ·subst hz
    have hk1 := keysB_zero l hlt
    generalize l[0] = x at k0 k1 k2 k3 hk1
    obtain ⟨x0, x1, x2, x3⟩ := x
    dsimp only at k0 k1 k2 k3 hk1
    rw [show ad.add (0 * 4) = ad from rfl] at k0 k1 k2 k3
    go_wp2_with fail
    have BX := Blk.new wr 28 #[.string x0, .int .u64 x1, .int .i64 x2, .string x3]
    have hS2 := hS.below ((Below.refl wr.heap.size wr).alloc (Nat.le_refl _) (.cells #[.string x0, .int .u64 x1, .int .i64 x2, .string x3] 28))
    generalize wr.alloc _ = W2 at BX hS2 ⊢
    go_quiet (fail)
    have hS2 := hS2.below (q0z (Below.refl _ _) nq)
    have BX := BX.drewN nq
    have q0 := (BX.cell 0).trans rfl
    generalize W2.drewN nq = W3 at BX hS2 q0 ⊢
    go_wp2_with (at_builtin; refine Kd.R_append Kd.string (w0 := w) w.heap.size rfl (.tmp 50) (.tmp 53) 69 9 (.string ⟨#[]⟩) 16 rfl Try.underlying69 info9 rfl (by decide) (by omega) u9 (keysB l 0) x0 [.string x0] (fun _ => True) (fun _ => False) rfl rfl (show Kd.M Kd.string _ _ _ x0 [.string x0] from rfl) (fun _ h => h.elim) (fun _ _ => trivial) hS2.keys hS2.low hS2.low.size (by omega) ?_; intro v9' w3 hR3 hb3 hg3 _)
    go_roundw
    case rel => exact ⟨1, by omega, rfl, by rw [hk1]; exact hS2.key hR3 hg3 hb3⟩
    case measure => simp [intOf]; omega
   ·obtain ⟨m, hm⟩ : ∃ m, m + 1 = i := ⟨i - 1, by omega⟩
    obtain ⟨ad', ea, j0, _, _, _⟩ := q15 hCr (m : Int) (by omega) (by omega)
    injection ea with ea
    subst ea
    rw [q1h l m (by omega), Int.toNat_natCast] at j0
    have hkn : l[m].f0 ≠ l[i].f0 → keysB l (i + 1) = keysB l i ++ [l[i].f0] := by subst hm; exact keysB_new l m hlt
    have hks : l[m].f0 = l[i].f0 → keysB l (i + 1) = keysB l i := by subst hm; exact keysB_same l m hlt
    have e1 : IntKind.i64.wrap ((i : Int) - 1) = (m : Int) := by rw [show (i : Int) - 1 = (m : Int) by omega]; exact IntWalk.i64_in _ (by omega)
    have z1 : ((i : Int) == 0) = false := beq_false_of_ne (by omega)
    have z2 : (0 : Int) ≤ (m : Int) := by omega
    have z3 : (m : Int) < (l.length : Int) := by omega
    have HKN := Lib.hid hkn
    have HKS := Lib.hid hks
    clear hkn hks
    generalize l[m] = y at j0 HKN HKS
    generalize l[i] = x at k0 k1 k2 k3 HKN HKS
    obtain ⟨x0, x1, x2, x3⟩ := x
    obtain ⟨y0, y1, y2, y3⟩ := y
    dsimp only at k0 k1 k2 k3 j0 HKN HKS
    go_wp2_with fail
    have BX := Blk.new wr 28 #[.string x0, .int .u64 x1, .int .i64 x2, .string x3]
    have hbx := (Below.refl wr.heap.size wr).alloc (Nat.le_refl _) (.cells #[.string x0, .int .u64 x1, .int .i64 x2, .string x3] 28)
    have hS2 := hS.below hbx
    have j0 := (hbx.cell (World.block_lt_of_cell? wr _ j0)).trans j0
    clear hbx
    generalize wr.alloc _ = W2 at BX hS2 j0 ⊢
    have q0 := (BX.cell 0).trans rfl
    by_cases he : y0 = x0
    ·have b1 : (y0.toList == x0.toList) = true := by rw [he]; exact beq_self_eq_true _
     go_quiet (fail)
     have hS2 := hS2.below (q0z (Below.refl _ _) nq)
     generalize W2.drewN nq = W3 at hS2 ⊢
     go_wp2_with fail
     go_roundw
     case rel => exact ⟨i + 1, by omega, by go_num, by rw [HKS.out he]; exact hS2⟩
     case measure => simp [intOf]; omega
    ·have b1 : (y0.toList == x0.toList) = false := beq_false_of_ne (fun e => he (L_inj (by rw [← Print.L_toList, ← Print.L_toList]; exact e)))
     go_quiet (fail)
     have hS2 := hS2.below (q0z (Below.refl _ _) nq)
     have BX := BX.drewN nq
     have q0 := (BX.cell 0).trans rfl
     generalize W2.drewN nq = W3 at BX hS2 q0 ⊢
     go_wp2_with (at_builtin; refine Kd.R_append Kd.string (w0 := w) w.heap.size rfl (.tmp 50) (.tmp 53) 69 9 (.string ⟨#[]⟩) 16 rfl Try.underlying69 info9 rfl (by decide) (by omega) u9 (keysB l i) x0 [.string x0] (fun _ => True) (fun _ => False) rfl rfl (show Kd.M Kd.string _ _ _ x0 [.string x0] from rfl) (fun _ h => h.elim) (fun _ _ => trivial) hS2.keys hS2.low hS2.low.size (by omega) ?_; intro v9' w3 hR3 hb3 hg3 _)
     go_roundw
     case rel => exact ⟨i + 1, by omega, by go_num, by rw [HKN.out he]; exact hS2.key hR3 hg3 hb3⟩
     case measure => simp [intOf]; omega
  ·have t1 : ((i : Int) < (l.length : Int)) = False := eq_false (by omega)
   obtain rfl : i = l.length := by omega
   clear hi hlt
   have hRZ := right_zero HG.out
   have hml : (l.map rowS).length = l.length := List.length_map _
   have hks1 : (keysB l l.length).length ≤ 1000 := by unfold keysB; rw [List.length_map]; have := PTable.keysTo_length (l.map rowS) l.length; omega
   have hks2 : ∀ s ∈ keysB l l.length, s.size ≤ 520 := keysB_small l hRZ.2.2.2.2.2.2.2
   have HKS2 := Lib.hid hks2
   clear hks2
   generalize keysB l l.length = ks at hS HT hks1 HKS2
   go_wp2_with fail
   go_loopw [0, 8] (fun v0 v8 wr => ∃ (j : Nat) (cs : List (List PBlock.Row)) (A : Option Addr) (c : Nat) (v : Value), j ≤ l.length ∧ v0 = .slice A (l.length - j) c ∧ l.length - j ≤ c ∧ Kd.C k28 w A (l.length - j) (l.drop j) ∧ PTable.chunks (l.map rowS) B R = cs ++ PTable.chunks ((l.drop j).map rowS) B R ∧ BS w wr bo v (Txt.B (PTable.bodyOf R cs)) v8 ((PTable.index R cs).map rowB) u9 ks B R Q ∧ (PTable.bodyOf R cs).length ≤ 262144 ∧ cs.length ≤ j) (fun v0 _ _ => sliceLen v0)
   case atStart => exact ⟨0, [], A0, c0, .slice none 0 0, by omega, rfl, hc0, HR.out, rfl, hS, by simp [PTable.bodyOf], by simp⟩
   case round =>
    obtain ⟨j, cs, A, c, v, hj, rfl, hcc, hC, hch, hS, hle, hcl⟩ := hrel
    obtain ⟨rest, hrest⟩ : ∃ rest, l.drop j = rest := ⟨_, rfl⟩
    have hrl : l.length - j = rest.length := by rw [← hrest, List.length_drop]
    have hfit : ∀ x ∈ rest, Fit x := fun x hx => HL.out x (by rw [← hrest] at hx; exact List.mem_of_mem_drop hx)
    have hchk : ∀ r ∈ rest.map rowS, PBlock.check r = 0 := fun r hr => hRZ.2.2.2.2.2.2.2 r (by rw [← hrest, List.map_drop] at hr; exact List.mem_of_mem_drop hr)
    rw [hrest] at hC hch
    rw [hrl] at hC hcc ⊢
    have o0 := (hS.opt.cell 0).trans rfl
    have o1 := (hS.opt.cell 1).trans rfl
    have o2 := (hS.opt.cell 2).trans rfl
    by_cases hp : rest = []
    ·subst hp
     rw [show PTable.chunks (([] : List S28).map rowS) B R = [] from rfl, List.append_nil] at hch
     clear hC hcc hfit hchk hrest hrl
     have HCS := Lib.hid hch
     clear hch
     have hm := q0n (PTable.bodyOf R cs)
     obtain ⟨Ao, co_, rfl⟩ := Go.Proofs.YtaigmemmgjlhgaaW.PrintWords.own_slice hS.out.row
     obtain ⟨Ak, ck, rfl, hck, hCk⟩ := Kd.R_reads hS.keys
     have co := (hS.out.out.cell 0).trans rfl
     rw [hm] at co
     have hmk : bloom_Make.f ks Q = some (Txt.B (Bloom.filter Q.toNat ks), 0) := by
      unfold bloom_Make.f
      rw [if_neg (by omega), if_pos ⟨by omega, fun s hs => by have := HKS2.out s hs; omega⟩]
     have MK := Lib.hid (fun w' hr => bloom_Make.calls Ak ck ks Q _ _ w' hr hck hmk)
     clear hmk
     have t1 : decide ((0 : Int) < (([] : List S28).length : Int)) = false := rfl
     have hF : (Bloom.filter Q.toNat ks).length ≤ 5000 := by
      rw [Bloom.filter_length]
      have : ks.length * Q.toNat ≤ 1000 * 32 := Nat.mul_le_mul hks1 (by omega)
      unfold Bloom.width
      omega
     generalize hFF : Bloom.filter Q.toNat ks = F at MK HT hF
     generalize hFB : Txt.B F = FB at MK
     have hpf := PFrame.put_ok (p := F) (by omega)
     have hadd : addErr (L (Txt.B (PTable.bodyOf R cs))) (L FB) = if 262144 < (PTable.bodyOf R cs ++ (PFrame.put F).1).length then 3 else 0 := by
      unfold addErr
      rw [← hFB, L_B, L_B, hpf]
      simp
     have hBe : Txt.B (PTable.bodyOf R cs) ++ Txt.B (PFrame.put (L FB)).1 = Txt.B (PTable.bodyOf R cs ++ (PFrame.put F).1) := by
      apply L_inj
      rw [← hFB, q0t, L_B, L_B, L_B, L_B]
     have hpl : (PFrame.put F).1.length ≤ 200000 := put_small F (by omega)
     go_wp2_with fail
     refine (MK.out _ hCk).mono ?_
     rintro e w2 ⟨rfl, hb2⟩
     have hS2 := hS.below hb2
     have AD := add_any w w2 bo _ _ hS2.out FB (by rw [← hFB, q0n]; omega) (by rw [q0n]; omega)
     rw [hadd, hBe] at AD
     have HAD := Lib.hid AD
     clear AD hadd hBe hpf hb2 hCk
     have hwh : PTable.whole R cs F = (PTable.bodyOf R cs ++ (PFrame.put F).1) ++ (PFrame.put (PBlock.build (PTable.index R cs) 1).1).1 ++ PTable.foot (PTable.bodyOf R cs).length ((PTable.bodyOf R cs).length + (PFrame.put F).1.length) := rfl
     have hft := PTable.foot_length (PTable.bodyOf R cs).length ((PTable.bodyOf R cs).length + (PFrame.put F).1.length)
     have hX : (PTable.bodyOf R cs ++ (PFrame.put F).1).length = (PTable.bodyOf R cs).length + (PFrame.put F).1.length := List.length_append
     generalize hXX : PTable.bodyOf R cs ++ (PFrame.put F).1 = X at HAD hwh hX
     have hwl : X.length ≤ (PTable.whole R cs F).length := by rw [hwh]; simp only [List.length_append]; omega
     have hBX := q0n X
     by_cases hbig : 262144 < X.length
     ·rw [if_pos hbig] at HAD
      go_wp2_with fail
      refine (HAD.out).mono ?_
      rintro e w3 ⟨rfl, v3, hO3, hk3⟩
      go_wp2_with fail
      go_ret2
      have hTT : T = ([], 3) := by
       rw [← HT.out]
       refine q1x HG.out (.inr ?_)
       rw [HCS.out]
       exact Nat.lt_of_lt_of_le hbig hwl
      rw [hTT]
      exact ⟨rfl, hO3.low⟩
     ·rw [if_neg hbig] at HAD
      go_wp2_with fail
      refine (HAD.out).mono ?_
      rintro e w3 ⟨rfl, v3, hO3, hk3⟩
      have hS3 := hS2.add hO3 hk3
      obtain ⟨A3, c3, rfl⟩ := Go.Proofs.YtaigmemmgjlhgaaW.PrintWords.own_slice hO3.row
      obtain ⟨Ai, ci, rfl, hci, hCi⟩ := Kd.R_reads hS3.idx
      have co3 := (hO3.out.cell 0).trans rfl
      rw [hBX] at co3
      have hfi : ∀ x ∈ (PTable.index R cs).map rowB, Fit x := by
       intro x hx
       obtain ⟨r, hr, rfl⟩ := List.mem_map.1 hx
       have := index_seq R cs (fun c hc r hr => (PBlock.check_ok (hRZ.2.2.2.2.2.2.2 r (chunks_sub _ B R c (by rw [HCS.out]; exact hc) r hr))).2.2.2.2.1) r hr
       exact ⟨Int.natCast_nonneg _, by show (r.seq : Int) < _; omega⟩
      have hil : ((PTable.index R cs).map rowB).length = (PTable.index R cs).length := List.length_map _
      have hBI := Block.build_any ((PTable.index R cs).map rowB) hfi (by rw [List.length_map, index_length]; omega) Ai ci 1 (by omega) (by omega)
      have hSB : ((PTable.index R cs).map rowB).map rowS = PTable.index R cs := by rw [List.map_map]; exact List.map_id'' (fun r => rowS_rowB r) _
      have BI := Lib.hid (fun w' hr => hBI w' hr hci)
      rw [hSB] at BI
      clear hBI hSB hfi
      rw [hil] at BI hCi
      obtain ⟨ib, hib⟩ : ∃ ib, PBlock.build (PTable.index R cs) 1 = ib := ⟨_, rfl⟩
      rw [hib] at BI hwh
      obtain ⟨it, ie⟩ := ib
      dsimp only at BI hwh
      by_cases hie : ie ≠ 0
      ·have m1 : ((ie : Int) != 0) = true := by simp [hie]
       go_wp2_with fail
       refine (BI.out _ hCi).mono ?_
       rintro e w4 ⟨rfl, hb4⟩
       go_wp2_with fail
       go_ret2
       have hTT : T = ([], 3) := by
        rw [← HT.out]
        refine q1x HG.out (.inl ?_)
        rw [HCS.out, hib]
        exact hie
       rw [hTT]
       exact ⟨rfl, q0d hO3.low hb4⟩
      obtain rfl : ie = 0 := by omega
      have hit : it.length ≤ 65536 := (PBlock.build_ok hib).2.2.2.2.2.2
      have hpi := PFrame.put_ok (p := it) hit
      have hadd : addErr (L (Txt.B X)) (L (Txt.B it)) = if 262144 < (X ++ (PFrame.put it).1).length then 3 else 0 := by
       unfold addErr
       rw [L_B, L_B, hpi]
       simp
      have hBe : Txt.B X ++ Txt.B (PFrame.put (L (Txt.B it))).1 = Txt.B (X ++ (PFrame.put it).1) := by
       apply L_inj
       rw [q0t, L_B, L_B, L_B, L_B]
      have hpl2 : (PFrame.put it).1.length ≤ 200000 := put_small it (by omega)
      generalize hIT : Txt.B it = IT at BI hadd hBe
      go_wp2_with fail
      refine (BI.out _ hCi).mono ?_
      rintro e w4 ⟨rfl, hb4⟩
      have hS4 := hS3.below hb4
      have AD := add_any w w4 bo _ _ hS4.out IT (by rw [← hIT, q0n]; omega) (by rw [q0n]; omega)
      rw [hadd, hBe] at AD
      have HAD := Lib.hid AD
      clear AD hadd hBe hpi hb4 hCi
      have hY : (X ++ (PFrame.put it).1).length = X.length + (PFrame.put it).1.length := List.length_append
      generalize X ++ (PFrame.put it).1 = Y at HAD hwh hY
      have hwl2 : (PTable.whole R cs F).length = Y.length + 20 := by rw [hwh, List.length_append, hft]
      have hBY := q0n Y
      by_cases hbig2 : 262144 < Y.length
      ·rw [if_pos hbig2] at HAD
       go_wp2_with fail
       refine (HAD.out).mono ?_
       rintro e w5 ⟨rfl, v5, hO5, hk5⟩
       go_wp2_with fail
       go_ret2
       have hTT : T = ([], 3) := by
        rw [← HT.out]
        refine q1x HG.out (.inr ?_)
        rw [HCS.out]
        omega
       rw [hTT]
       exact ⟨rfl, hO5.low⟩
      rw [if_neg hbig2] at HAD
      obtain ⟨q, hq⟩ : ∃ q, Y.length + 20 = q := ⟨_, rfl⟩
      have hw20 : IntKind.i64.wrap ((Y.length : Int) + 20) = (q : Int) := by rw [show (Y.length : Int) + 20 = (q : Int) by omega]; exact IntWalk.i64_in _ (by omega)
      have hTT : T = if 262144 < q then ([], 3) else (PTable.whole R cs F, 0) := by
       rw [← HT.out]
       by_cases h : 262144 < q
       ·rw [if_pos h]
        exact q1x HG.out (.inr (by rw [HCS.out]; omega))
       ·rw [if_neg h]
        unfold PTable.table
        rw [if_neg (fun e => e HG.out), HCS.out, if_neg]
        rw [hib]
        rintro (h | h)
        ·exact h rfl
        ·omega
      generalize hyl : Y.length = yl at hw20 hBY
      by_cases hb20 : 262144 < q
      ·have t5 : decide ((262144 : Int) < (q : Int)) = true := decide_eq_true (by omega)
       rw [if_pos hb20] at hTT
       subst hTT
       clear hbig2 hb20 hq hyl hwl2
       go_wp2_with fail
       refine (HAD.out).mono ?_
       rintro e w5 ⟨rfl, v5, hO5, hk5⟩
       obtain ⟨A5, c5, rfl⟩ := Go.Proofs.YtaigmemmgjlhgaaW.PrintWords.own_slice hO5.row
       have co5 := (hO5.out.cell 0).trans rfl
       rw [hBY] at co5
       go_wp2_with fail
       go_ret2
       exact ⟨rfl, hO5.low⟩
      have t5 : decide ((262144 : Int) < (q : Int)) = false := decide_eq_false (by omega)
      rw [if_neg hb20] at hTT
      subst hTT
      have hft2 := fun w' => foot_any (PTable.bodyOf R cs).length ((PTable.bodyOf R cs).length + (PFrame.put F).1.length) (by omega) (by omega) w'
      rw [Int.natCast_add] at hft2
      have hfz : (Txt.B (PTable.foot (PTable.bodyOf R cs).length ((PTable.bodyOf R cs).length + (PFrame.put F).1.length))).size = 20 := by rw [q0n]; exact hft
      have s9 : (9223372036854775807 < yl + 20) = False := eq_false (by omega)
      have s10 : (9223372036854775787 < yl) = False := eq_false (by omega)
      have hwB : Txt.B Y ++ Txt.B (PTable.foot (PTable.bodyOf R cs).length ((PTable.bodyOf R cs).length + (PFrame.put F).1.length)) = Txt.B (PTable.whole R cs F) := by
       apply L_inj
       rw [hwh, q0t, L_B, L_B, L_B]
      have HWB := Lib.hid hwB
      clear hwB
      generalize Txt.B (PTable.foot (PTable.bodyOf R cs).length ((PTable.bodyOf R cs).length + (PFrame.put F).1.length)) = FT at hft2 hfz HWB
      have HFT := Lib.hid hft2
      clear hbig2 hb20 hq hyl hwl2 hft2
      generalize hYB : Txt.B Y = YB at HAD HWB hBY
      go_wp2_with fail
      refine (HAD.out).mono ?_
      rintro e w5 ⟨rfl, v5, hO5, hk5⟩
      obtain ⟨A5, c5, rfl⟩ := Go.Proofs.YtaigmemmgjlhgaaW.PrintWords.own_slice hO5.row
      have co5 := (hO5.out.cell 0).trans rfl
      rw [hBY] at co5
      have hO6 := hO5.below (Below.refl w5.heap.size w5).drew
      have cv5 := conv_str YB hO5.row
      have cv6 := conv_str YB hO6.row
      rw [hBY] at cv5 cv6
      go_wp2_with fail
      go_region_held3 (fun w' => w'.cell? ⟨bo, 0, none⟩ = some (.slice A5 yl c5) ∧ (convert 55 9 (.slice A5 yl c5)).run Try.prog w' = .ok (.string YB) w') (first | exact ⟨co7, cv7⟩ | exact ⟨co5, cv6⟩ | exact ⟨co5, cv5⟩) (first | (((with_reducible refine (HFT.out _).mono ?_); rintro e w7 ⟨rfl, hb7⟩; have hO7 := hO6.below hb7; have co7 := (hO7.out.cell 0).trans rfl; have cv7 := conv_str YB hO7.row; rw [hBY] at co7 cv7)))
      go_wp2_with fail
      go_ret2
      refine ⟨?_, hO7.low⟩
      rw [HWB.out, hwh]
      rfl
    have hpos := List.length_pos_iff.2 hp
    have t1 : decide ((0 : Int) < (rest.length : Int)) = true := decide_eq_true (by omega)
    have t2 : ((0 : Int) < (rest.length : Int)) = True := eq_true (by omega)
    have t3 : (0 < rest.length) = True := eq_true hpos
    have hrs : rest.length ≤ 1000 := by omega
    have PC := Lib.hid (fun w' hr => cut_any rest hfit (by omega) hp A c hcc B R Q ⟨hRZ.2.2.1, hRZ.2.2.2.1⟩ (one_ok hchk R hRZ.2.2.1 hRZ.2.2.2.1) w' hr)
    have hn1 := PTable.cut_pos (rest.map rowS) B R
    have hn2 := PTable.cut_le (l := rest.map rowS) (by simp [hp]) B R
    have hok := PTable.cutAt_ok (rest.map rowS) B R (rest.map rowS).length 1 (one_ok hchk R hRZ.2.2.1 hRZ.2.2.2.1)
    have hcons := PTable.chunks_cons (l := rest.map rowS) (by simp [hp]) B R
    rw [show PTable.cutAt (rest.map rowS) B R (rest.map rowS).length 1 = PTable.cut (rest.map rowS) B R from rfl] at hok
    rw [hcons] at hch
    clear hcons
    rw [List.length_map] at hn2
    generalize PTable.cut (rest.map rowS) B R = n at PC hn1 hn2 hok hch
    have HCH := Lib.hid hch
    have HOK := Lib.hid hok
    have HFIT := Lib.hid hfit
    have HCHK := Lib.hid hchk
    have HRZ := Lib.hid hRZ
    have HC := Lib.hid hC
    clear hch hok hfit hchk hRZ hC
    generalize hbs : (PBlock.build ((rest.map rowS).take n) R).1 = bs at PC
    generalize hBB : Txt.B bs = BB at PC
    obtain ⟨Ao, co_, rfl⟩ := Go.Proofs.YtaigmemmgjlhgaaW.PrintWords.own_slice hS.out.row
    go_wp2_with fail
    refine (PC.out _ (Kd.C_below HC.out hS.low)).mono ?_
    rintro e w2 ⟨rfl, hb2⟩
    have hS2 := hS.below hb2
    have hC2 := HC.out
    obtain ⟨n', hn'⟩ : ∃ n', n' + 1 = n := ⟨n - 1, by omega⟩
    obtain ⟨ad, rfl, j0, _, _, _⟩ := q15 hC2 ((0 : Nat) : Int) (by omega) (by omega)
    obtain ⟨ad', ea, k0, k1, _, _⟩ := q15 hC2 (n' : Int) (by omega) (by omega)
    injection ea with ea
    subst ea
    rw [q1h rest 0 hpos, Int.toNat_natCast, show ad.add (0 * 4) = ad from rfl] at j0
    rw [q1h rest n' (by omega), Int.toNat_natCast] at k0 k1
    have l0 := World.block_lt_of_cell? w _ k0
    have l1 := World.block_lt_of_cell? w _ k1
    have j0 := cellLow hS2.low (World.block_lt_of_cell? w _ j0) j0
    have hent : rowB (PTable.entry (PTable.bodyOf R cs).length ((rest.map rowS).take n)) = ⟨rest[n'].f0, rest[n'].f1, 1, Txt.B (PCode.putField (L rest[0].f0)) ++ Txt.B (PCode.putUint (PTable.bodyOf R cs).length) ++ Txt.B (PCode.putUint n)⟩ := entry_row rest HFIT.out n n' hn' (by omega) hpos _
    have hf0 := (hchk0 rest hpos HCHK.out).1
    have P1 := Lib.hid (fun w' => putField_any rest[0].f0 (by omega) w')
    have z1 : (Txt.B (PCode.putField (L rest[0].f0))).size ≤ 600 := by
     rw [q0n]; unfold PCode.putField; rw [List.length_append]
     have := PCode.putUint_length_ten (n := (L rest[0].f0).length) (by rw [q0g]; omega)
     rw [q0g] at this ⊢; omega
    have hm := q0n (PTable.bodyOf R cs)
    have P2 := Lib.hid (fun w' => putUint_any ((PTable.bodyOf R cs).length : Int) (by omega) (by omega) w')
    have P3 := Lib.hid (fun w' => putUint_any (n : Int) (by omega) (by omega) w')
    rw [Int.toNat_natCast] at P2 P3
    have z2 : (Txt.B (PCode.putUint (PTable.bodyOf R cs).length)).size ≤ 10 := by rw [q0n]; exact PCode.putUint_length_ten (by omega)
    have z3 : (Txt.B (PCode.putUint n)).size ≤ 10 := by rw [q0n]; exact PCode.putUint_length_ten (by omega)
    have co := (hS2.out.out.cell 0).trans rfl
    rw [hm] at co
    have u1 : IntKind.u64.wrap ((PTable.bodyOf R cs).length : Int) = ((PTable.bodyOf R cs).length : Int) := q0o (by omega) (by omega)
    have u2 : IntKind.u64.wrap (n : Int) = (n : Int) := q0o (by omega) (by omega)
    have HENT := Lib.hid hent
    clear hent
    generalize Txt.B (PCode.putField (L rest[0].f0)) = p1 at P1 z1 HENT
    generalize Txt.B (PCode.putUint (PTable.bodyOf R cs).length) = p2 at P2 z2 HENT
    generalize Txt.B (PCode.putUint n) = p3 at P3 z3 HENT
    generalize rest[0] = y at j0 P1 HENT hf0
    generalize rest[n'] = z at k0 k1 HENT
    have s1 : p1.size + p2.size ≤ 9223372036854775807 := by omega
    have s2 : p1.size + p2.size + p3.size ≤ 9223372036854775807 := by omega
    have s3 : (9223372036854775807 < p1.size + p2.size) = False := eq_false (by omega)
    have s4 : (9223372036854775807 < p1.size + p2.size + p3.size) = False := eq_false (by omega)
    generalize hmm : (PTable.bodyOf R cs).length = m at co u1 P2 hm
    go_wp2_with fail
    go_region_held3 (fun w' => w'.cell? ad = some (.string y.f0) ∧ w'.cell? ⟨bo, 0, none⟩ = some (.slice Ao m co_)) (exact ⟨j0, co⟩) (first | (((with_reducible refine (P1.out _).mono ?_); rintro e w3 ⟨rfl, hb3⟩; have j0 := (hb3.cell (World.block_lt_of_cell? w2 _ j0)).trans j0; have co := (hb3.cell (World.block_lt_of_cell? w2 _ co)).trans co)) | (((with_reducible refine (P2.out _).mono ?_); rintro e w4 ⟨rfl, hb4⟩; have j0 := (hb4.cell (World.block_lt_of_cell? w3 _ j0)).trans j0; have co := (hb4.cell (World.block_lt_of_cell? w3 _ co)).trans co)) | (((with_reducible refine (P3.out _).mono ?_); rintro e w5 ⟨rfl, hb5⟩; have j0 := (hb5.cell (World.block_lt_of_cell? w4 _ j0)).trans j0; have co := (hb5.cell (World.block_lt_of_cell? w4 _ co)).trans co)))
    have hb := q0d (q0d (q0d (Below.refl w2.heap.size w2).drew hb3) hb4) hb5
    have hS5 := hS2.below hb
    have e1 : IntKind.i64.wrap ((n : Int) - 1) = (n' : Int) := by rw [show (n : Int) - 1 = (n' : Int) by omega]; exact IntWalk.i64_in _ (by omega)
    have y1 : (0 : Int) ≤ (n' : Int) := by omega
    have y2 : (n' : Int) < (rest.length : Int) := by omega
    have hil : ((PTable.index R cs).map rowB).length ≤ 1000 := by rw [List.length_map, index_length]; omega
    clear hb hb3 hb4 hb5 hS2 hC2 j0 P1 P2 P3
    go_wp2_with fail
    have hL5 := hS5.low
    have hS6 := hS5.below (Below.refl w5.heap.size w5).drew
    go_region_held3 (fun w' => w'.cell? (ad.add (n' * 4)) = some (.string z.f0) ∧ w'.cell? ⟨(ad.add (n' * 4)).block, (ad.add (n' * 4)).off + 1, none⟩ = some (.int .u64 z.f1)) (refine ⟨cellLow ?_ l0 k0, cellLow ?_ l1 k1⟩ <;> first | exact hb7 | exact (hL5.drew.alloc hL5.size _) | exact hL5.drew | exact hL5) (first | (refine Kd.R_append_step k28 (w0 := w) w.heap.size (by rfl) (.tmp 83) (.tmp 98) 32 28 (.agg #[(.string ⟨#[]⟩), (.int .u64 0), (.int .i64 0), (.string ⟨#[]⟩)]) 48 rfl Try.underlying32 info28 rfl (by decide) (by omega) u8 ((PTable.index R cs).map rowB) (⟨z.f0, z.f1, 1, p1 ++ p2 ++ p3⟩ : S28) [.string z.f0, .int .u64 z.f1, .int .i64 1, .string (p1 ++ p2 ++ p3)] (fun _ => True) (fun _ => False) rfl rfl (k28_mkM _ _ _ _) (fun _ h => h.elim) (fun _ _ => trivial) hS6.idx hS6.low hS6.low.size (by omega) ?_; intro v8' w7 hR7 hb7 hg7 _))
    have hS7 := hS6.row hR7 hg7 hb7
    have hbsl : bs.length ≤ 65536 := by
     rw [← hbs]
     exact (PBlock.build_ok (s := (PBlock.build ((rest.map rowS).take n) R).1) (Prod.ext rfl HOK.out)).2.2.2.2.2.2
    have hput2 : (PFrame.put bs).2 = 0 := by rw [PFrame.put_ok hbsl]
    have hfr : PTable.frameOf R ((rest.map rowS).take n) = (PFrame.put bs).1 := by unfold PTable.frameOf; rw [hbs]
    have hsn := PTable.bodyOf_snoc R cs ((rest.map rowS).take n)
    have hin := PTable.index_snoc R cs ((rest.map rowS).take n)
    rw [hfr] at hsn
    have hadd : addErr (L (Txt.B (PTable.bodyOf R cs))) (L BB) = if 262144 < (PTable.bodyOf R (cs ++ [(rest.map rowS).take n])).length then 3 else 0 := by
     unfold addErr
     rw [← hBB, L_B, L_B, hput2, ← hsn]
     simp
    have AD := add_any w w7 bo _ _ hS7.out BB (by rw [← hBB, q0n]; omega) (by rw [q0n]; omega)
    rw [hadd] at AD
    have hBe : Txt.B (PTable.bodyOf R cs) ++ Txt.B (PFrame.put (L BB)).1 = Txt.B (PTable.bodyOf R (cs ++ [(rest.map rowS).take n])) := by
     apply L_inj
     rw [← hBB, hsn, q0t, L_B, L_B, L_B, L_B]
    rw [hBe] at AD
    have HAD := Lib.hid AD
    have HIN := Lib.hid hin
    clear AD hadd hBe hsn hfr hput2 hin
    by_cases hbig : 262144 < (PTable.bodyOf R (cs ++ [(rest.map rowS).take n])).length
    ·rw [if_pos hbig] at HAD
     go_wp2_with fail
     refine (HAD.out).mono ?_
     rintro e w8 ⟨rfl, v8, hO8, hk8⟩
     go_wp2_with fail
     go_ret2
     have hTT : T = ([], 3) := by
      rw [← HT.out]
      refine q1x HG.out (.inr ?_)
      rw [HCH.out]
      refine Nat.lt_of_lt_of_le hbig (Nat.le_trans ?_ (whole_ge R _ _))
      rw [show cs ++ (rest.map rowS).take n :: PTable.chunks ((rest.map rowS).drop n) B R = (cs ++ [(rest.map rowS).take n]) ++ PTable.chunks ((rest.map rowS).drop n) B R by simp]
      exact bodyOf_ge R _ _
     rw [hTT]
     exact ⟨rfl, hO8.low⟩
    ·rw [if_neg hbig] at HAD
     go_wp2_with fail
     refine (HAD.out).mono ?_
     rintro e w8 ⟨rfl, v8, hO8, hk8⟩
     have hS8 := hS7.add hO8 hk8
     rw [show (PTable.index R cs).map rowB ++ [(⟨z.f0, z.f1, 1, p1 ++ p2 ++ p3⟩ : S28)] = (PTable.index R (cs ++ [(rest.map rowS).take n])).map rowB by rw [HIN.out, List.map_append, ← HENT.out, hmm]; rfl] at hS8
     have hD := Kd.C_drop (c := c) (m := n) (xs := rest) HC.out (by omega) (by omega)
     have hdd : l.drop (j + n) = rest.drop n := by rw [← hrest, List.drop_drop]
     have hll : rest.length - n = l.length - (j + n) := by omega
     have hch2 : PTable.chunks (l.map rowS) B R = (cs ++ [(rest.map rowS).take n]) ++ PTable.chunks ((l.drop (j + n)).map rowS) B R := by
      rw [HCH.out, hdd, List.map_drop]
      simp
     rw [List.length_drop, hll, ← hdd] at hD
     by_cases hcn : c = n
     ·rw [if_pos hcn] at hD
      have q1 : (0 : Int) ≤ (n : Int) := by omega
      have q2 : (n : Int) ≤ (rest.length : Int) := by omega
      have q3 : (n : Int) ≤ (c : Int) := by omega
      have q4 : (c = n) = True := eq_true hcn
      go_wp2_with fail
      go_roundw
      case rel => exact ⟨j + n, cs ++ [(rest.map rowS).take n], _, 0, v8, by omega, by first | rfl | (rw [hll]; rfl), by omega, hD, hch2, hS8, by omega, by rw [List.length_append, List.length_singleton]; omega⟩
      case measure => simp only [sliceLen]; omega
     ·rw [if_neg hcn] at hD
      have q1 : (0 : Int) ≤ (n : Int) := by omega
      have q2 : (n : Int) ≤ (rest.length : Int) := by omega
      have q3 : (n : Int) ≤ (c : Int) := by omega
      go_wp2_with fail
      go_roundw
      case rel => exact ⟨j + n, cs ++ [(rest.map rowS).take n], _, c - n, v8, by omega, by first | rfl | (rw [hll]; rfl), by omega, hD, hch2, hS8, by omega, by rw [List.length_append, List.length_singleton]; omega⟩
      case measure => simp only [sliceLen]; omega
end Go.Proofs.Ytaigmemmgjlhgaa.Tab
-- TabE
namespace Go.Proofs.Ytaigmemmgjlhgaa.Tab
open Go.RowKit Aid Txt Print PLink Block Bits Go.Proofs.YtaigmemmgjlhgaaW.PrintWords
def partB (p : PTable.Part) : S65 := ⟨B p.first, B p.last, (p.seq : Int), (p.rows : Int), (p.from_ : Int), (p.to : Int)⟩
theorem uint_le (l : List UInt8) : (PCode.uint l).2.1 ≤ l.length ∧ (PCode.uint l).1 < 18446744073709551616 := by
 have h := PCode.uintAt_err 0 l
 rw [show PCode.uintAt 0 l = PCode.uint l from rfl] at h
 rcases h with h | h | h
 ·have := PCode.uint_ok (l := l) (n := (PCode.uint l).1) (s := (PCode.uint l).2.1) (by rw [← h])
  exact ⟨this.2.2.1, this.2.2.2⟩
 ·rw [h]; exact ⟨Nat.zero_le _, by omega⟩
 ·rw [h]; exact ⟨Nat.zero_le _, by omega⟩
theorem field_le (l : List UInt8) (m : Int) : (PCode.field l m).2.1 ≤ l.length := by
 by_cases h : (PCode.field l m).2.2 = 0
 ·exact (PCode.field_ok (l := l) (t := (PCode.field l m).1) (s := (PCode.field l m).2.1) (by rw [← h])).2.2.1
 ·unfold PCode.field at h ⊢
  split
  ·exact Nat.zero_le _
  ·split
   ·exact Nat.zero_le _
   ·split
    ·exact Nat.zero_le _
    ·rename_i h1 h2 h3
     rw [if_neg h1, if_neg h2, if_neg h3] at h
     exact absurd rfl h
def Tells (x : S28) (q : S65) (ok : Bool) : Prop :=
 match PTable.entryOf (rowS x) with
 | some p => ok = true ∧ q = partB p
 | none => ok = false
theorem entry_tail (T F0 : ByteArray) (F1 v' u' f2 : Int) (e f g N s u v : Nat) : ∃ (q : S65) (ok : Bool), (if (e : Int) = 0 then (if (f : Int) = 0 then (if (g : Int) = 0 then (if (N : Int) = (s : Int) then (if f2 = 1 then (if (u : Int) ≤ 262144 then (if (v : Int) ≥ 1 then (some (T, F0, F1, v', u', (0 : Int), decide ((v : Int) ≤ 1024))) else (some (T, F0, F1, v', u', (0 : Int), false))) else (some (T, F0, F1, v', u', (0 : Int), false))) else (some (T, F0, F1, v', u', (0 : Int), false))) else (some (T, F0, F1, v', u', (0 : Int), false))) else (some (T, F0, F1, v', u', (0 : Int), false))) else (some (T, F0, F1, v', u', (0 : Int), false))) else (some (T, F0, F1, v', u', (0 : Int), false))) = some (q.f0, q.f1, q.f2, q.f3, q.f4, q.f5, ok) ∧ (if e = 0 ∧ f = 0 ∧ g = 0 ∧ N = s ∧ f2 = 1 ∧ u ≤ 262144 ∧ 1 ≤ v ∧ v ≤ 1024 then ok = true ∧ q = ⟨T, F0, F1, v', u', 0⟩ else ok = false) := by
 by_cases c0 : e = 0
 rotate_left
 ·exact ⟨⟨T, F0, F1, v', u', 0⟩, false, by rw [if_neg (by omega)], by rw [if_neg (by omega)]⟩
 by_cases c1 : f = 0
 rotate_left
 ·exact ⟨⟨T, F0, F1, v', u', 0⟩, false, by rw [if_pos (by omega)]; rw [if_neg (by omega)], by rw [if_neg (by omega)]⟩
 by_cases c2 : g = 0
 rotate_left
 ·exact ⟨⟨T, F0, F1, v', u', 0⟩, false, by rw [if_pos (by omega)]; rw [if_pos (by omega)]; rw [if_neg (by omega)], by rw [if_neg (by omega)]⟩
 by_cases c3 : N = s
 rotate_left
 ·exact ⟨⟨T, F0, F1, v', u', 0⟩, false, by rw [if_pos (by omega)]; rw [if_pos (by omega)]; rw [if_pos (by omega)]; rw [if_neg (by omega)], by rw [if_neg (by omega)]⟩
 by_cases c4 : f2 = 1
 rotate_left
 ·exact ⟨⟨T, F0, F1, v', u', 0⟩, false, by rw [if_pos (by omega)]; rw [if_pos (by omega)]; rw [if_pos (by omega)]; rw [if_pos (by omega)]; rw [if_neg (by omega)], by rw [if_neg (by omega)]⟩
 by_cases c5 : u ≤ 262144
 rotate_left
 ·exact ⟨⟨T, F0, F1, v', u', 0⟩, false, by rw [if_pos (by omega)]; rw [if_pos (by omega)]; rw [if_pos (by omega)]; rw [if_pos (by omega)]; rw [if_pos (by omega)]; rw [if_neg (by omega)], by rw [if_neg (by omega)]⟩
 by_cases c6 : 1 ≤ v
 rotate_left
 ·exact ⟨⟨T, F0, F1, v', u', 0⟩, false, by rw [if_pos (by omega)]; rw [if_pos (by omega)]; rw [if_pos (by omega)]; rw [if_pos (by omega)]; rw [if_pos (by omega)]; rw [if_pos (by omega)]; rw [if_neg (by omega)], by rw [if_neg (by omega)]⟩
 by_cases c7 : v ≤ 1024
 ·exact ⟨⟨T, F0, F1, v', u', 0⟩, true, by rw [if_pos (by omega)]; rw [if_pos (by omega)]; rw [if_pos (by omega)]; rw [if_pos (by omega)]; rw [if_pos (by omega)]; rw [if_pos (by omega)]; rw [if_pos (by omega)]; rw [decide_eq_true (show (v : Int) ≤ 1024 by omega)], by rw [if_pos ⟨c0, c1, c2, c3, c4, c5, c6, c7⟩]; exact ⟨rfl, rfl⟩⟩
 ·exact ⟨⟨T, F0, F1, v', u', 0⟩, false, by rw [if_pos (by omega)]; rw [if_pos (by omega)]; rw [if_pos (by omega)]; rw [if_pos (by omega)]; rw [if_pos (by omega)]; rw [if_pos (by omega)]; rw [if_pos (by omega)]; rw [decide_eq_false (show ¬ (v : Int) ≤ 1024 by omega)], by rw [if_neg (by omega)]⟩
set_option maxHeartbeats 1000000 in
theorem entry_ev (x : S28) (hx : Fit x) (hv : x.f3.size ≤ 1000000) : ∃ (q : S65) (ok : Bool), Ev (fun k => table_entry.f k x.f0 x.f1 x.f2 x.f3) (q.f0, q.f1, q.f2, q.f3, q.f4, q.f5, ok) ∧ Tells x q ok := by
 have hf := code_field x.f3 (by omega) 520 (by omega)
 have hF := field_le (L x.f3) 520
 have hl := q0g x.f3
 obtain ⟨E, hE⟩ : ∃ E, PTable.entryOf (rowS x) = E := ⟨_, rfl⟩
 have hdef : PTable.entryOf ⟨L x.f0, x.f1.toNat, x.f2, L x.f3⟩ = E := hE
 unfold PTable.entryOf at hdef
 dsimp only at hdef
 generalize PCode.field (L x.f3) 520 = F at hf hF hdef
 obtain ⟨t, n, e⟩ := F
 dsimp only at hF hdef
 have hu := code_uint (x.f3.extract n x.f3.size) (by rw [ByteArray.size_extract]; omega)
 rw [L_drop] at hu
 have hU := uint_le ((L x.f3).drop n)
 rw [List.length_drop] at hU
 generalize PCode.uint ((L x.f3).drop n) = U at hu hU hdef
 obtain ⟨u, m, f⟩ := U
 dsimp only at hU hdef
 have hw := code_uint (x.f3.extract (n + m) x.f3.size) (by rw [ByteArray.size_extract]; omega)
 rw [L_drop] at hw
 have hV := uint_le ((L x.f3).drop (n + m))
 rw [List.length_drop] at hV
 generalize PCode.uint ((L x.f3).drop (n + m)) = V at hw hV hdef
 obtain ⟨v, k, g⟩ := V
 dsimp only at hV hdef
 rw [hl] at hF hU hV hdef
 have e1 : wrap64 ((n : Int) + (m : Int)) = ((n + m : Nat) : Int) := by rw [q0u (by omega) (by omega)]; omega
 have e2 : wrap64 (((n + m : Nat) : Int) + (k : Int)) = ((n + m + k : Nat) : Int) := by rw [q0u (by omega) (by omega)]; omega
 have E1 := Lib.hid e1
 have E2 := Lib.hid e2
 clear e1 e2
 have n0 : (0 : Int) ≤ (n : Int) := Int.natCast_nonneg _
 have n1 : (n : Int) ≤ (x.f3.size : Int) := by omega
 have m0 : (0 : Int) ≤ ((n + m : Nat) : Int) := Int.natCast_nonneg _
 have m1 : ((n + m : Nat) : Int) ≤ (x.f3.size : Int) := by omega
 have step : ∀ R, (if (e : Int) = 0 then (if (f : Int) = 0 then (if (g : Int) = 0 then (if ((n + m + k : Nat) : Int) = (x.f3.size : Int) then (if x.f2 = 1 then (if (u : Int) ≤ 262144 then (if (v : Int) ≥ 1 then (some (B t, x.f0, x.f1, wrap64 (v : Int), wrap64 (u : Int), (0 : Int), decide ((v : Int) ≤ 1024))) else (some (B t, x.f0, x.f1, wrap64 (v : Int), wrap64 (u : Int), (0 : Int), false))) else (some (B t, x.f0, x.f1, wrap64 (v : Int), wrap64 (u : Int), (0 : Int), false))) else (some (B t, x.f0, x.f1, wrap64 (v : Int), wrap64 (u : Int), (0 : Int), false))) else (some (B t, x.f0, x.f1, wrap64 (v : Int), wrap64 (u : Int), (0 : Int), false))) else (some (B t, x.f0, x.f1, wrap64 (v : Int), wrap64 (u : Int), (0 : Int), false))) else (some (B t, x.f0, x.f1, wrap64 (v : Int), wrap64 (u : Int), (0 : Int), false))) else (some (B t, x.f0, x.f1, wrap64 (v : Int), wrap64 (u : Int), (0 : Int), false))) = some R → Ev (fun k => table_entry.f k x.f0 x.f1 x.f2 x.f3) R := by
  intro R h
  obtain ⟨K, hK⟩ := hf
  refine ⟨K, fun k hk => ?_⟩
  have h0 := hK k hk
  dsimp only at h0 ⊢
  unfold table_entry.f
  rw [h0, Option.bind_some]
  dsimp only
  rw [if_pos n0, if_pos n1, Int.toNat_natCast, hu, Option.bind_some]
  dsimp only
  rw [E1.out, if_pos m0, if_pos m1, Int.toNat_natCast, hw, Option.bind_some]
  dsimp only
  rw [E2.out]
  exact h
 clear hf hu hw
 obtain ⟨q, ok, h1, h2⟩ := entry_tail (B t) x.f0 x.f1 (wrap64 (v : Int)) (wrap64 (u : Int)) x.f2 e f g (n + m + k) x.f3.size u v
 refine ⟨q, ok, step _ h1, ?_⟩
 clear step h1
 unfold Tells
 rw [hE, ← hdef]
 clear hE hdef
 split at h2
 ·rename_i hc
  rw [if_pos hc]
  obtain ⟨rfl, rfl⟩ := h2
  refine ⟨rfl, ?_⟩
  have h0 := hx.s0
  unfold partB
  simp only [B_L]
  rw [q0u (by omega) (by omega), q0u (by omega) (by omega), show ((x.f1.toNat : Nat) : Int) = x.f1 by omega]
  rfl
 ·rename_i hc
  rw [if_neg hc]
  exact h2
theorem entry_any (x : S28) (hx : Fit x) (hv : x.f3.size ≤ 1000000) : ∃ (q : S65) (ok : Bool), Tells x q ok ∧ ∀ w : World,
  Calls Try.prog 44 #[.agg #[.string x.f0, .int .u64 x.f1, .int .i64 x.f2, .string x.f3]] w fun e w' => e = .returned (.tuple #[.agg #[.string q.f0, .string q.f1, .int .u64 q.f2, .int .i64 q.f3, .int .i64 q.f4, .int .i64 q.f5], .bool ok]) ∧ Below w.heap.size w w' := by
 obtain ⟨q, ok, h, ht⟩ := entry_ev x hx hv
 obtain ⟨k, hk⟩ := h.rounds
 exact ⟨q, ok, ht, fun w => table_entry.calls k _ _ _ _ _ _ _ _ _ _ _ w hk⟩
end Go.Proofs.Ytaigmemmgjlhgaa.Tab
-- TabM
namespace Go.Proofs.Ytaigmemmgjlhgaa.Tab
open Go.RowKit Aid Txt Print PLink Block Bits Go.Proofs.YtaigmemmgjlhgaaW.PrintWords
structure At (w : World) (b : Nat) (s f : ByteArray) (A : Option Addr) (c : Nat) (ps : List S65) : Prop where
 blk : Blk w b 26 #[.string s, .string f, .slice A ps.length c, .bool true]
 row : Kd.C k65 w A ps.length ps
 cap : ps.length ≤ c
theorem At.below {w w' : World} {b : Nat} {s f : ByteArray} {A : Option Addr} {c : Nat} {ps : List S65} (h : At w b s f A c ps) (hb : Below w.heap.size w w') : At w' b s f A c ps :=
 ⟨h.blk.below hb h.blk.lt, Kd.C_below h.row hb, h.cap⟩
def NoneIs (x : Bool) (p : Option Addr) (w : World) : Prop := Calls Try.prog 24 #[.pointer p] w fun e w' => e = .returned (.bool x) ∧ w = w'
theorem none_blk (x : Bool) {w : World} {b : Nat} {v0 v1 v2 : Value} (h : Blk w b 26 #[v0, v1, v2, .bool x]) : NoneIs (!x) (some ⟨b, 0, none⟩) w := by
 have c3 := (h.cell 3).trans rfl
 have hlt := h.lt
 unfold NoneIs
 cases x
 all_goals
  go_enter Try.func24, Try.ntmps24
  go_wp2_with fail
  go_ret
  exact ⟨rfl, rfl⟩
theorem At.open_ {w : World} {b : Nat} {s f : ByteArray} {A : Option Addr} {c : Nat} {ps : List S65} (h : At w b s f A c ps) : NoneIs false (some ⟨b, 0, none⟩) w := none_blk true h.blk
section
variable {w : World} {b : Nat} {s f : ByteArray} {A : Option Addr} {c : Nat} {ps : List S65}
def rowsIn (ps : List S65) : Int := (ps.map fun p => p.f3).sum
theorem rowsIn_snoc (ps : List S65) (i : Nat) (h : i < ps.length) : rowsIn (ps.take (i + 1)) = rowsIn (ps.take i) + ps[i].f3 := by
 unfold rowsIn
 rw [List.take_succ_eq_append_getElem h, List.map_append, List.sum_append]
 simp
theorem rowsIn_le (ps : List S65) (hr : ∀ p ∈ ps, 0 ≤ p.f3 ∧ p.f3 ≤ 1024) (i : Nat) : 0 ≤ rowsIn (ps.take i) ∧ rowsIn (ps.take i) ≤ 1024 * i := by
 induction i with
 | zero => simp [rowsIn]
 | succ i ih =>
  by_cases h : i < ps.length
  ·rw [rowsIn_snoc ps i h]
   have := hr _ (List.getElem_mem h)
   omega
  ·rw [List.take_of_length_le (by omega)] at ih ⊢
   omega
theorem at_P (l : List S65) (i : Nat) (h : i < l.length) : rd_T65 l (i : Int) = l[i] := by
 unfold rd_T65
 rw [Int.toNat_natCast, List.getD_eq_getElem?_getD, List.getElem?_eq_getElem h]
 rfl
set_option maxHeartbeats 1000000 in
theorem Len_any (h : At w b s f A c ps) (hr : ∀ p ∈ ps, 0 ≤ p.f3 ∧ p.f3 ≤ 1024) (hl : ps.length ≤ 1000000) : Calls Try.prog 11 #[.pointer (some ⟨b, 0, none⟩)] w fun e w' => e = .returned (.int .i64 (rowsIn ps)) ∧ Below w.heap.size w w' := by
 have H := Lib.hid h.open_
 have c2 := (h.blk.cell 2).trans rfl
 have hlt := h.blk.lt
 have HA := Lib.hid h
 have HR := Lib.hid hr
 clear h hr
 go_enter Try.func11, Try.ntmps11
 go_wp2_with fail
 refine (H.out).mono ?_
 rintro e w' ⟨rfl, rfl⟩
 go_wp2_with fail
 go_loopw [3, 14] (fun v3 v14 wr => ∃ i : Nat, i ≤ ps.length ∧ v3 = .int .i64 (rowsIn (ps.take i)) ∧ v14 = .int .i64 i ∧ Below w.heap.size w wr) (fun _ v14 _ => ps.length - (intOf v14).toNat)
 case atStart => exact ⟨0, by omega, rfl, rfl, Below.refl _ _⟩
 case round =>
  obtain ⟨i, hi, rfl, rfl, hB⟩ := hrel
  by_cases hlt : i < ps.length
  ·have t1 : ((i : Int) < (ps.length : Int)) = True := eq_true (by omega)
   obtain ⟨ad, rfl, k0, k1, k2, k3, k4, k5⟩ := at_T65 (HA.out.below hB).row (i : Int) (by omega) (by omega)
   rw [at_P ps i hlt, Int.toNat_natCast] at k0 k1 k2 k3 k4 k5
   have hs := rowsIn_snoc ps i hlt
   have hle := rowsIn_le ps HR.out i
   have hle2 := rowsIn_le ps HR.out (i + 1)
   rw [hs] at hle2
   have HS := Lib.hid hs
   clear hs
   generalize rowsIn (ps.take i) = n at hle hle2 HS ⊢
   generalize ps[i] = p at *
   go_wp2_with fail
   go_roundw
   case rel => exact ⟨i + 1, by omega, by rw [HS.out], by go_num, hB.alloc hB.size _⟩
   case measure => simp [intOf]; omega
  ·have t1 : ((i : Int) < (ps.length : Int)) = False := eq_false (by omega)
   obtain rfl : i = ps.length := by omega
   rw [List.take_length]
   go_wp2_with fail
   go_ret
   exact ⟨rfl, hB⟩
theorem First_any (h : At w b s f A c ps) : Calls Try.prog 12 #[.pointer (some ⟨b, 0, none⟩)] w fun e w' => e = .returned (.string ((ps.head?.map fun p => p.f0).getD ⟨#[]⟩)) ∧ Below w.heap.size w w' := by
 have H := Lib.hid h.open_
 have c2 := (h.blk.cell 2).trans rfl
 have hlt := h.blk.lt
 have HA := Lib.hid h
 clear h
 cases ps with
 | nil =>
  go_enter Try.func12, Try.ntmps12
  go_wp2_with fail
  refine (H.out).mono ?_
  rintro e w' ⟨rfl, rfl⟩
  go_wp2_with fail
  go_ret
  exact ⟨rfl, Below.refl _ _⟩
 | cons p l =>
  obtain ⟨ad, rfl, k0, k1, k2, k3, k4, k5⟩ := at_T65 HA.out.row 0 (by omega) (by rw [List.length_cons]; omega)
  have e0 : rd_T65 (p :: l) 0 = p := rfl
  rw [e0] at k0
  simp only [Int.toNat_zero, Nat.zero_mul] at k0
  clear k1 k2 k3 k4 k5
  have hz : (((p :: l).length : Int) == 0) = false := beq_false_of_ne (by rw [List.length_cons]; omega)
  have hz1 : ((0 : Int) < ((p :: l).length : Int)) = True := eq_true (by rw [List.length_cons]; omega)
  have hz2 : (0 < (p :: l).length) = True := eq_true (by rw [List.length_cons]; omega)
  rw [show ad.add 0 = ad from rfl] at k0
  generalize hN : (p :: l).length = N at c2 hz hz1 hz2
  go_enter Try.func12, Try.ntmps12
  go_wp2_with fail
  refine (H.out).mono ?_
  rintro e w' ⟨rfl, rfl⟩
  go_wp2_with fail
  go_ret
  exact ⟨rfl, Below.refl _ _⟩
theorem Last_any (h : At w b s f A c ps) (hl : ps.length ≤ 1000000) : Calls Try.prog 13 #[.pointer (some ⟨b, 0, none⟩)] w fun e w' => e = .returned (.string ((ps.getLast?.map fun p => p.f1).getD ⟨#[]⟩)) ∧ Below w.heap.size w w' := by
 have H := Lib.hid h.open_
 have c2 := (h.blk.cell 2).trans rfl
 have hlt := h.blk.lt
 have HA := Lib.hid h
 clear h
 by_cases hn : ps = []
 ·subst hn
  go_enter Try.func13, Try.ntmps13
  go_wp2_with fail
  refine (H.out).mono ?_
  rintro e w' ⟨rfl, rfl⟩
  go_wp2_with fail
  go_ret
  exact ⟨rfl, Below.refl _ _⟩
 ·have hpos := List.length_pos_iff.2 hn
  obtain ⟨N, hN⟩ : ∃ N, ps.length = N + 1 := ⟨ps.length - 1, by omega⟩
  obtain ⟨ad, rfl, k0, k1, k2, k3, k4, k5⟩ := at_T65 HA.out.row (N : Int) (by omega) (by omega)
  have e2 : (ps.getLast?.map fun p => p.f1).getD ⟨#[]⟩ = (rd_T65 ps (N : Int)).f1 := by
   rw [at_P ps _ (by omega), List.getLast?_eq_getElem?, List.getElem?_eq_getElem (by omega)]
   simp [hN]
  rw [e2]
  rw [Int.toNat_natCast] at k1
  clear k0 k2 k3 k4 k5 e2
  rw [hN] at c2 hl
  have e1 : IntKind.i64.wrap (((N + 1 : Nat) : Int) - 1) = (N : Int) := by rw [show ((N + 1 : Nat) : Int) - 1 = (N : Int) by omega]; exact IntWalk.i64_in _ (by omega)
  have z1 : 0 ≤ (N : Int) := by omega
  have z2 : (N : Int) < ((N + 1 : Nat) : Int) := by omega
  have hz : (((N + 1 : Nat) : Int) == 0) = false := beq_false_of_ne (by omega)
  generalize rd_T65 ps (N : Int) = p at k1 ⊢
  generalize hM : N + 1 = M at c2 e1 z2 hz hl
  go_enter Try.func13, Try.ntmps13
  go_wp2_with fail
  refine (H.out).mono ?_
  rintro e w' ⟨rfl, rfl⟩
  go_wp2_with fail
  go_region_held3 (fun w' => w'.cell? ⟨b, 2, none⟩ = some (.slice (some ad) M c) ∧ w'.cell? ⟨(ad.add (N * 6)).block, (ad.add (N * 6)).off + 1, none⟩ = some (.string p.f1)) (exact ⟨c2, k1⟩) (fail)
  go_wp2_with fail
  go_ret
  exact ⟨rfl, q0z (Below.refl _ _) _⟩
end
end Go.Proofs.Ytaigmemmgjlhgaa.Tab
-- TabR
namespace Go.Proofs.Ytaigmemmgjlhgaa.Tab
open Go.RowKit Aid Txt Print PLink Block Bits Go.Proofs.YtaigmemmgjlhgaaW.PrintWords
theorem one_small (s : List UInt8) : (PTable.one s).1.length ≤ 65536 := by
 unfold PTable.one
 dsimp only
 rcases PFrame.get_err s with h | h
 ·exact (PFrame.get_ok (s := s) (p := (PFrame.get s).1) (n := (PFrame.get s).2.1) (by rw [← h])).2.2.2.2.1
 ·rw [h.1]; simp
abbrev partV (p : S65) : Value := .agg #[.string p.f0, .string p.f1, .int .u64 p.f2, .int .i64 p.f3, .int .i64 p.f4, .int .i64 p.f5]
theorem eqPart (d : Nat) (w : World) (x0 y0 x1 y1 : ByteArray) (x2 y2 x3 y3 x4 y4 x5 y5 : Int) :
  (Op.equalIn (d + 2) 65 (.agg #[.string x0, .string x1, .int .u64 x2, .int .i64 x3, .int .i64 x4, .int .i64 x5]) (.agg #[.string y0, .string y1, .int .u64 y2, .int .i64 y3, .int .i64 y4, .int .i64 y5])).run Try.prog w = .ok (x0.toList == y0.toList && (x1.toList == y1.toList && (x2 == y2 && (x3 == y3 && (x4 == y4 && x5 == y5))))) w := by
 refine eqA_of Try.underlying65 (by kernel_rfl) ?_
 refine eqf_cons (by rfl) (by go_simp; rfl) (by go_simp; rfl) (by go_simp) ?_
 refine eqf_cons (by rfl) (by go_simp; rfl) (by go_simp; rfl) (by go_simp) ?_
 refine eqf_cons (by rfl) (by go_simp; rfl) (by go_simp; rfl) (by go_simp) ?_
 refine eqf_cons (by rfl) (by go_simp; rfl) (by go_simp; rfl) (by go_simp) ?_
 refine eqf_cons (by rfl) (by go_simp; rfl) (by go_simp; rfl) (by go_simp) ?_
 exact eqf_last (by rfl) (by go_simp; rfl) (by go_simp; rfl) (by go_simp)
attribute [local go_sem high] eqPart
def ReadOut (w w' : World) (e : Ending) : Option (List PBlock.Row) → Prop
 | some l => ∃ v, e = .returned (.tuple #[v, .int .i64 0]) ∧ Kd.R k28 28 w' w.heap.size (fun _ => True) v (l.map rowB)
 | none => e = .returned (.tuple #[.slice none 0 0, .int .i64 10])
structure Lies (n : Nat) (p : PTable.Part) : Prop where
 le_ : p.from_ ≤ p.to
 to_ : p.to ≤ n
 pos : 1 ≤ p.rows
 rows : p.rows ≤ 1024
section
variable {w : World} {b : Nat} {s f : ByteArray} {A : Option Addr} {c : Nat} {ps : List S65}
set_option maxRecDepth 100000 in
set_option maxHeartbeats 8000000 in
theorem read_any (h : At w b s f A c ps) (hs : s.size ≤ 262144) (p : PTable.Part) (hp : Lies s.size p) :
  Calls Try.prog 29 #[.pointer (some ⟨b, 0, none⟩), partV (partB p)] w fun e w' => ReadOut w w' e (PTable.readT (L s) p) ∧ Below w.heap.size w w' := by
 have hb0 := h.blk
 have hlt := h.blk.lt
 have c0 := (h.blk.cell 0).trans rfl
 clear h
 have hle := hp.le_
 have hto := hp.to_
 have hpos := hp.pos
 have hrw := hp.rows
 clear hp
 have hsl : L (s.extract p.from_ p.to) = ((L s).drop p.from_).take (p.to - p.from_) := by rw [L_extract, List.drop_take]
 have O1 := one_any (s.extract p.from_ p.to) (by rw [ByteArray.size_extract]; omega)
 rw [hsl] at O1
 have O1 := Lib.hid O1
 obtain ⟨R0, hR0⟩ : ∃ R0, PTable.readT (L s) p = R0 := ⟨_, rfl⟩
 rw [hR0]
 unfold PTable.readT at hR0
 dsimp only at hR0
 have hq := one_small (((L s).drop p.from_).take (p.to - p.from_))
 generalize PTable.one (((L s).drop p.from_).take (p.to - p.from_)) = o at O1 hR0 hq
 obtain ⟨q, ok⟩ := o
 dsimp only at O1 hR0 hq
 unfold partB
 generalize hPF : B p.first = PF
 generalize hPL : B p.last = PL
 generalize hQ : B q = Q at O1
 have z1 : (0 : Int) ≤ (p.from_ : Int) := by omega
 have z2 : (p.from_ : Int) ≤ (p.to : Int) := by omega
 have z3 : (p.to : Int) ≤ (s.size : Int) := by omega
 go_enter Try.func29, Try.ntmps29
 go_wp2_with fail
 have BP := Blk.new w 65 #[.string PF, .string PL, .int .u64 (p.seq : Int), .int .i64 (p.rows : Int), .int .i64 (p.from_ : Int), .int .i64 (p.to : Int)]
 have HB := (Below.refl w.heap.size w).alloc (Nat.le_refl _) (.cells #[.string PF, .string PL, .int .u64 (p.seq : Int), .int .i64 (p.rows : Int), .int .i64 (p.from_ : Int), .int .i64 (p.to : Int)] 65)
 have c1 := (HB.cell (p := ⟨b, 0, none⟩) hlt).trans c0
 clear c0
 generalize w.alloc _ = W0 at BP HB c1 ⊢
 have p4 := (BP.cell 4).trans rfl
 have p5 := (BP.cell 5).trans rfl
 go_region_held3 (fun w' => w'.cell? ⟨b, 0, none⟩ = some (.string s) ∧ w'.cell? ⟨w.heap.size, 4, none⟩ = some (.int .i64 (p.from_ : Int)) ∧ w'.cell? ⟨w.heap.size, 5, none⟩ = some (.int .i64 (p.to : Int))) (exact ⟨c1, p4, p5⟩) (first | (((with_reducible refine (O1.out _).mono ?_); rintro e w1 ⟨rfl, hb1⟩; have HB1 := q0d HB.drew hb1; have c1 := (hb1.cell (World.block_lt_of_cell? W0 _ c1)).trans c1; have p4 := (hb1.cell (World.block_lt_of_cell? W0 _ p4)).trans p4; have p5 := (hb1.cell (World.block_lt_of_cell? W0 _ p5)).trans p5)))
 have BP1 := BP.drew.below hb1 BP.lt
 clear hb1 HB BP c1 p4 p5
 cases ok with
 | false =>
  have hr : R0 = none := by rw [← hR0]; rfl
  subst hr
  go_wp2_with fail
  go_ret2
  exact ⟨rfl, HB1⟩
 | true =>
  simp only [true_and] at hR0
  have O2 := rows_any (B q) (by rw [q0n]; omega)
  rw [L_B, hQ] at O2
  generalize PBlock.rows q = RS at O2 hR0
  obtain ⟨rs, er⟩ := RS
  dsimp only at O2 hR0
  have O2 := Lib.hid O2
  have p3 := (BP1.cell 3).trans rfl
  go_wp2_with fail
  refine (O2.out _).mono ?_
  rintro e w2 ⟨v, rfl, hR2, hb2⟩
  have HB2 := q0d HB1 hb2
  have p3 := (hb2.cell (World.block_lt_of_cell? w1 _ p3)).trans p3
  have BP2 := BP1.below hb2 BP1.lt
  obtain ⟨A2, c2, rfl, hc2, hC2⟩ := Kd.R_reads hR2
  rw [List.length_map] at hc2 hC2 hR2 ⊢
  by_cases e0 : er = 0
  rotate_left
  ·have hr : R0 = none := by rw [← hR0, if_neg (fun h => e0 h.1)]
   subst hr
   have m1 : ((er : Int) != 0) = true := by simp [e0]
   go_wp2_with fail
   go_ret2
   exact ⟨rfl, HB2⟩
  subst e0
  by_cases hlen : rs.length = p.rows
  rotate_left
  ·have hr : R0 = none := by rw [← hR0, if_neg (fun h => hlen h.2.1)]
   subst hr
   have m1 : ((rs.length : Int) != (p.rows : Int)) = true := by simp; omega
   go_wp2_with fail
   go_ret2
   exact ⟨rfl, HB2⟩
  have m1 : ((rs.length : Int) != (p.rows : Int)) = false := by simp; omega
  obtain ⟨N, hN⟩ : ∃ N, rs.length = N + 1 := ⟨rs.length - 1, by omega⟩
  obtain ⟨ad, rfl, k0, k1, k2, k3⟩ := q15 hC2 (N : Int) (by omega) (by omega)
  obtain ⟨ad', ea, j0, _, _, _⟩ := q15 hC2 0 (by omega) (by omega)
  injection ea with ea
  subst ea
  have eN : q0i (rs.map rowB) (N : Int) = rowB (rs.getLastD PTable.zeroRow) := by
   unfold q0i
   rw [Int.toNat_natCast, List.getD_eq_getElem?_getD, List.getElem?_map, List.getElem?_eq_getElem (by omega), List.getLastD_eq_getLast?, List.getLast?_eq_getElem?, List.getElem?_eq_getElem (by omega)]
   simp [hN]
  have e1 : q0i (rs.map rowB) 0 = rowB (rs.headD PTable.zeroRow) := by
   cases rs with
   | nil => simp at hN
   | cons r rs => rfl
  rw [eN, Int.toNat_natCast] at k0 k1 k2 k3
  rw [e1] at j0
  simp only [Int.toNat_zero, Nat.zero_mul] at j0
  rw [show ad.add 0 = ad from rfl] at j0
  clear eN e1
  generalize rs.getLastD PTable.zeroRow = z at k0 k1 k2 k3 hR0
  generalize rs.headD PTable.zeroRow = y at j0 hR0
  unfold rowB at k0 k1 k2 k3 j0
  dsimp only at k0 k1 k2 k3 j0
  generalize hY : B y.key = Y at j0
  generalize hZ : B z.key = Z at k0
  rw [hN] at m1 hR2 hC2 hc2 ⊢
  have hw : IntKind.i64.wrap (((N + 1 : Nat) : Int) - 1) = (N : Int) := by rw [show ((N + 1 : Nat) : Int) - 1 = (N : Int) by omega]; exact IntWalk.i64_in _ (by omega)
  have z4 : 0 ≤ (N : Int) := by omega
  have z5 : (N : Int) < ((N + 1 : Nat) : Int) := by omega
  have z6 : (0 : Int) < ((N + 1 : Nat) : Int) := by omega
  rw [← hlen] at p3 BP2 ⊢
  rw [hN] at p3 BP2 ⊢
  generalize hM : N + 1 = M at *
  go_wp2_with fail
  have BE := Blk.new w2 28 #[.string Z, .int .u64 (z.seq : Int), .int .i64 z.kind, .string (B z.value)]
  have HE := (Below.refl w2.heap.size w2).alloc (Nat.le_refl _) (.cells #[.string Z, .int .u64 (z.seq : Int), .int .i64 z.kind, .string (B z.value)] 28)
  generalize w2.alloc _ = W3 at BE HE ⊢
  have HB3 := q0d HB2 HE
  have j0 := (HE.cell (World.block_lt_of_cell? w2 _ j0)).trans j0
  have BP3 := BP2.below HE BP2.lt
  have hR3 := Kd.R_lower (Kd.R_drew (Kd.R_below hR2 HE)) HB1.size
  have q0 := (BP3.cell 0).trans rfl
  have q1 := (BP3.cell 1).trans rfl
  have q2 := (BP3.cell 2).trans rfl
  have q3 := (BP3.cell 3).trans rfl
  have q4 := (BP3.cell 4).trans rfl
  have q5 := (BP3.cell 5).trans rfl
  have r0 := (BE.cell 0).trans rfl
  have r1 := (BE.cell 1).trans rfl
  obtain ⟨b1, hb1⟩ : ∃ b1, (Y.toList == PF.toList) = b1 := ⟨_, rfl⟩
  obtain ⟨b2, hb2'⟩ : ∃ b2, (Z.toList == PL.toList) = b2 := ⟨_, rfl⟩
  obtain ⟨b3, hb3⟩ : ∃ b3, ((z.seq : Int) == (p.seq : Int)) = b3 := ⟨_, rfl⟩
  have z7 : (0 < M) = True := eq_true (by omega)
  have k1 : b1 = true ↔ y.key = p.first := by rw [← hb1, beq_iff_eq, ← hY, ← hPF, Print.L_toList, Print.L_toList, L_B, L_B]
  have k2 : b2 = true ↔ z.key = p.last := by rw [← hb2', beq_iff_eq, ← hZ, ← hPL, Print.L_toList, Print.L_toList, L_B, L_B]
  have k3 : b3 = true ↔ z.seq = p.seq := by rw [← hb3, beq_iff_eq]; omega
  have hres : (b1 && (b2 && b3)) = true ↔ (True ∧ rs.length = p.rows ∧ y.key = p.first ∧ z.key = p.last ∧ z.seq = p.seq) := by
   rw [Bool.and_eq_true, Bool.and_eq_true, k1, k2, k3]
   exact ⟨fun h => ⟨trivial, hlen, h⟩, fun h => h.2.2⟩
  have HRES := Lib.hid hres
  have HR0 := Lib.hid hR0
  clear hres hR0 k1 k2 k3
  cases b1 with
  | false =>
   go_region_held3 (fun w' => w'.cell? ad = some (.string Y) ∧ w'.cell? ⟨w2.heap.size, 0, none⟩ = some (.string Z) ∧ w'.cell? ⟨w2.heap.size, 1, none⟩ = some (.int .u64 (z.seq : Int)) ∧ w'.cell? ⟨w.heap.size, 0, none⟩ = some (.string PF) ∧ w'.cell? ⟨w.heap.size, 1, none⟩ = some (.string PL) ∧ w'.cell? ⟨w.heap.size, 2, none⟩ = some (.int .u64 (p.seq : Int)) ∧ w'.cell? ⟨w.heap.size, 3, none⟩ = some (.int .i64 (M : Int)) ∧ w'.cell? ⟨w.heap.size, 4, none⟩ = some (.int .i64 (p.from_ : Int)) ∧ w'.cell? ⟨w.heap.size, 5, none⟩ = some (.int .i64 (p.to : Int))) (exact ⟨j0, r0, r1, q0, q1, q2, q3, q4, q5⟩) (fail)
   have hr : R0 = none := by
    rw [← HR0.out, if_neg]
    intro h
    have hx := HRES.out.2 h
    simp at hx
   subst hr
   go_wp2_with fail
   go_ret2
   exact ⟨rfl, HB3.drew⟩
  | true =>
   cases b2 with
   | false =>
    go_region_held3 (fun w' => w'.cell? ad = some (.string Y) ∧ w'.cell? ⟨w2.heap.size, 0, none⟩ = some (.string Z) ∧ w'.cell? ⟨w2.heap.size, 1, none⟩ = some (.int .u64 (z.seq : Int)) ∧ w'.cell? ⟨w.heap.size, 0, none⟩ = some (.string PF) ∧ w'.cell? ⟨w.heap.size, 1, none⟩ = some (.string PL) ∧ w'.cell? ⟨w.heap.size, 2, none⟩ = some (.int .u64 (p.seq : Int)) ∧ w'.cell? ⟨w.heap.size, 3, none⟩ = some (.int .i64 (M : Int)) ∧ w'.cell? ⟨w.heap.size, 4, none⟩ = some (.int .i64 (p.from_ : Int)) ∧ w'.cell? ⟨w.heap.size, 5, none⟩ = some (.int .i64 (p.to : Int))) (exact ⟨j0, r0, r1, q0, q1, q2, q3, q4, q5⟩) (fail)
    have hr : R0 = none := by
     rw [← HR0.out, if_neg]
     intro h
     have hx := HRES.out.2 h
     simp at hx
    subst hr
    go_wp2_with fail
    go_ret2
    exact ⟨rfl, HB3.drew⟩
   | true =>
    cases b3 with
    | false =>
     go_region_held3 (fun w' => w'.cell? ad = some (.string Y) ∧ w'.cell? ⟨w2.heap.size, 0, none⟩ = some (.string Z) ∧ w'.cell? ⟨w2.heap.size, 1, none⟩ = some (.int .u64 (z.seq : Int)) ∧ w'.cell? ⟨w.heap.size, 0, none⟩ = some (.string PF) ∧ w'.cell? ⟨w.heap.size, 1, none⟩ = some (.string PL) ∧ w'.cell? ⟨w.heap.size, 2, none⟩ = some (.int .u64 (p.seq : Int)) ∧ w'.cell? ⟨w.heap.size, 3, none⟩ = some (.int .i64 (M : Int)) ∧ w'.cell? ⟨w.heap.size, 4, none⟩ = some (.int .i64 (p.from_ : Int)) ∧ w'.cell? ⟨w.heap.size, 5, none⟩ = some (.int .i64 (p.to : Int))) (exact ⟨j0, r0, r1, q0, q1, q2, q3, q4, q5⟩) (fail)
     have hr : R0 = none := by
      rw [← HR0.out, if_neg]
      intro h
      have hx := HRES.out.2 h
      simp at hx
     subst hr
     go_wp2_with fail
     go_ret2
     exact ⟨rfl, HB3.drew⟩
    | true =>
     go_region_held3 (fun w' => w'.cell? ad = some (.string Y) ∧ w'.cell? ⟨w2.heap.size, 0, none⟩ = some (.string Z) ∧ w'.cell? ⟨w2.heap.size, 1, none⟩ = some (.int .u64 (z.seq : Int)) ∧ w'.cell? ⟨w.heap.size, 0, none⟩ = some (.string PF) ∧ w'.cell? ⟨w.heap.size, 1, none⟩ = some (.string PL) ∧ w'.cell? ⟨w.heap.size, 2, none⟩ = some (.int .u64 (p.seq : Int)) ∧ w'.cell? ⟨w.heap.size, 3, none⟩ = some (.int .i64 (M : Int)) ∧ w'.cell? ⟨w.heap.size, 4, none⟩ = some (.int .i64 (p.from_ : Int)) ∧ w'.cell? ⟨w.heap.size, 5, none⟩ = some (.int .i64 (p.to : Int))) (exact ⟨j0, r0, r1, q0, q1, q2, q3, q4, q5⟩) (fail)
     have hr : R0 = some rs := by rw [← HR0.out, if_pos (HRES.out.1 rfl)]
     subst hr
     go_wp2_with fail
     go_ret2
     exact ⟨⟨_, rfl, hR3⟩, HB3.drew⟩
end
end Go.Proofs.Ytaigmemmgjlhgaa.Tab
-- TabO
namespace Go.Proofs.Ytaigmemmgjlhgaa.Tab
open Go.RowKit Aid Txt Print PLink Block Bits Go.Proofs.YtaigmemmgjlhgaaW.PrintWords
def OpenOut (w w' : World) (e : Ending) : Option PTable.Tab → Prop
 | some t => ∃ b A c, e = .returned (.tuple #[.pointer (some ⟨b, 0, none⟩), .int .i64 0]) ∧ At w' b (Txt.B t.s) (Txt.B t.filter) A c (t.parts.map partB) ∧ w.heap.size ≤ b
 | none => e = .returned (.tuple #[.pointer none, .int .i64 10])
def chkB (s : List UInt8) : Bool := Bloom.chk (Txt.B s) == 0
structure OS (w wr : World) (bt : Nat) (s f : ByteArray) (v : Value) (ps : List S65) : Prop where
 tab : Blk wr bt 26 #[.string s, .string f, v, .bool true]
 row : Kd.R k65 65 wr w.heap.size (fun _ => True) v ps
 g : w.heap.size ≤ bt
 low : Below w.heap.size w wr
section
variable {w wr w' : World} {bt : Nat} {v : Value} {s f : ByteArray} {ps : List S65}
theorem OS.below (h : OS w wr bt s f v ps) (hb : Below wr.heap.size wr w') : OS w w' bt s f v ps := ⟨h.tab.below hb h.tab.lt, Kd.R_below h.row hb, h.g, q0d h.low hb⟩
theorem OS.at_ (h : OS w wr bt s f v ps) : ∃ A c, At wr bt s f A c ps := by
 obtain ⟨A, c, rfl, hc, hC⟩ := Kd.R_reads h.row
 exact ⟨A, c, h.tab, hC, hc⟩
end
theorem rows_fit (p : List UInt8) : ∀ r ∈ (PBlock.rows p).1, r.seq < 18446744073709551616 ∧ r.value.length ≤ 1000000 := by
 intro r hr
 rcases PBlock.rows_err p with h | h
 ·have hb := PBlock.rows_ok (s := p) (l := (PBlock.rows p).1) (Prod.ext rfl h)
  have := PBlock.check_ok ((PBlock.build_ok hb).2.2.2.1 r hr)
  exact ⟨by omega, by omega⟩
 ·rw [h] at hr; cases hr
theorem rows_len (p : List UInt8) : (PBlock.rows p).1.length ≤ 1024 := by
 rcases PBlock.rows_err p with h | h
 ·have hb := PBlock.rows_ok (s := p) (l := (PBlock.rows p).1) (Prod.ext rfl h)
  exact (PBlock.build_ok hb).2.2.2.2.1
 ·rw [h]; simp
theorem infoPart : (Try.prog.info? 65).map (fun i => (i.zero, i.size, i.bytes)) = some (some (.agg #[.string ⟨#[]⟩, .string ⟨#[]⟩, .int .u64 0, .int .i64 0, .int .i64 0, .int .i64 0]), 6, 64) := by kernel_rfl
theorem OS.push {w wr w' : World} {bt : Nat} {v v' vr : Value} {s f : ByteArray} {ps qs : List S65} {rows : List S28} (h : OS w wr bt s f v ps) (hrows : Kd.R k28 28 wr w.heap.size (fun _ => True) vr rows)
  (hr : Kd.R k65 65 w' w.heap.size (fun _ => True) v' qs) (hg : wr.grownBy w' v.ownBlock) (hb : Below w.heap.size w w') :
  w'.cell? ⟨bt, 2, none⟩ = some v ∧ w'.frozen? ⟨bt, 2, none⟩ = false ∧ bt < w'.heap.size ∧ OS w (w'.setCell ⟨bt, 2, none⟩ v') bt s f v' qs ∧ Kd.R k28 28 (w'.setCell ⟨bt, 2, none⟩ v') w.heap.size (fun _ => True) vr rows := by
 have ht := h.tab.grown hg (Kd.R_ne h.row h.tab (by decide))
 refine ⟨(ht.cell 2).trans rfl, ht.frozen 2, ht.lt, ⟨ht.set_ 2 v', Kd.R_mono (Kd.R_set hr ht (by intro q hq; rw [List.mem_singleton.1 hq]; decide) 2 v') (fun _ _ => trivial), h.g, hb.setCell (p := ⟨bt, 2, none⟩) h.g v'⟩, ?_⟩
 exact Kd.R_mono (Kd.R_set (Kd.R_over' hrows (Kd.R_typed h.row) (by intro q hq; rw [List.mem_singleton.1 hq]; decide) hg) ht (by intro q hq; rw [List.mem_singleton.1 hq]; decide) 2 v') (fun _ _ => trivial)
theorem R_to {W : World} {base bx g n cap : Nat} {ps : List S65} (h : Kd.R k65 65 W base (fun k => k ≠ bx) (.slice (some ⟨g, 0, none⟩) n cap) ps) (m : Nat) (hm : m < n) (q : Int) :
  (∃ u, W.cell? ⟨g, m * 6 + 5, none⟩ = some u) ∧ W.frozen? ⟨g, m * 6 + 5, none⟩ = false ∧ Kd.R k65 65 (W.setCell ⟨g, m * 6 + 5, none⟩ (.int .i64 q)) base (fun k => k ≠ bx) (.slice (some ⟨g, 0, none⟩) n cap)
   (ps.set m ⟨(ps.getD m z65).f0, (ps.getD m z65).f1, (ps.getD m z65).f2, (ps.getD m z65).f3, (ps.getD m z65).f4, q⟩) := by
 obtain ⟨c, hcl, hM, hcc, hfr⟩ := Kd.R_elem h z65 (m : Int) (by omega) (by omega)
 rw [Int.toNat_natCast] at hM hcc hfr
 have hcc' := hcc
 obtain rfl := k65_openM hM
 have h6 : k65.sz = 6 := rfl
 have hs := Kd.R_seg (x' := (⟨(ps.getD m z65).f0, (ps.getD m z65).f1, (ps.getD m z65).f2, (ps.getD m z65).f3, (ps.getD m z65).f4, q⟩ : S65)) (okp := fun _ => False) (seg := [.int .i64 q]) (j := 5) h (m : Int) (by omega) (by omega) hcl (by rw [Int.toNat_natCast]; exact hcc') (by rw [h6]; simp) (k65_mkM _ _ _ _) (fun _ h => h.elim)
 rw [Int.toNat_natCast, h6] at hs
 rw [h6] at hcc hfr
 exact ⟨⟨_, hcc 5 _ rfl⟩, hfr 5, hs.1⟩
theorem set_to (ps : List PTable.Part) (p : PTable.Part) (x : Nat) (q : Int) (hq : q = (x : Int)) : ((ps ++ [p]).map partB).set ps.length ⟨(((ps ++ [p]).map partB).getD ps.length z65).f0, (((ps ++ [p]).map partB).getD ps.length z65).f1, (((ps ++ [p]).map partB).getD ps.length z65).f2, (((ps ++ [p]).map partB).getD ps.length z65).f3, (((ps ++ [p]).map partB).getD ps.length z65).f4, q⟩ = (PTable.setTo (ps ++ [p]) x).map partB := by
 have e : ((ps ++ [p]).map partB).getD ps.length z65 = partB p := by
  rw [List.getD_eq_getElem?_getD, List.getElem?_map, List.getElem?_append_right (Nat.le_refl _)]
  simp
 rw [e, PTable.setTo_snoc, hq, List.map_append, List.map_append, List.set_append, if_neg (by rw [List.length_map]; omega), List.length_map, Nat.sub_self]
 rfl
def befI : Option Nat → Int
 | none => -1
 | some b => (b : Int)
set_option maxRecDepth 100000 in
set_option maxHeartbeats 16000000 in
theorem open_any (s : ByteArray) (w : World) (hs : s.size ≤ 1000000) :
  Calls Try.prog 17 #[.string s] w fun e w' => OpenOut w w' e (PTable.open_ chkB (L s)) ∧ Below w.heap.size w w' := by
 obtain ⟨T, hT⟩ : ∃ T, PTable.open_ chkB (L s) = T := ⟨_, rfl⟩
 rw [hT]
 have hl := q0g s
 by_cases h20 : s.size < 20
 ·have t1 : decide ((s.size : Int) < 20) = true := decide_eq_true (by omega)
  have hTT : T = none := by rw [← hT]; unfold PTable.open_; rw [if_pos (by omega)]
  subst hTT
  clear hT
  go_enter Try.func17, Try.ntmps17
  go_wp2_with fail
  go_ret2
  exact ⟨rfl, Below.refl _ _⟩
 have t1 : decide ((s.size : Int) < 20) = false := decide_eq_false (by omega)
 by_cases hbig : 262144 < s.size
 ·have t2 : decide ((262144 : Int) < (s.size : Int)) = true := decide_eq_true (by omega)
  have hTT : T = none := by rw [← hT]; unfold PTable.open_; rw [if_pos (by omega)]
  subst hTT
  clear hT
  go_enter Try.func17, Try.ntmps17
  go_wp2_with fail
  go_ret2
  exact ⟨rfl, Below.refl _ _⟩
 have t2 : decide ((262144 : Int) < (s.size : Int)) = false := decide_eq_false (by omega)
 obtain ⟨en, hen⟩ : ∃ en, en + 20 = s.size := ⟨s.size - 20, by omega⟩
 have u1 : IntKind.i64.wrap ((s.size : Int) - 20) = (en : Int) := by rw [show (s.size : Int) - 20 = (en : Int) by omega]; exact IntWalk.i64_in _ (by omega)
 have u2 : IntKind.i64.wrap ((en : Int) + 8) = ((en + 8 : Nat) : Int) := by rw [show (en : Int) + 8 = ((en + 8 : Nat) : Int) by omega]; exact IntWalk.i64_in _ (by omega)
 have y1 : (0 : Int) ≤ (en : Int) := by omega
 have y2 : (en : Int) ≤ (s.size : Int) := by omega
 have y3 : (0 : Int) ≤ ((en + 8 : Nat) : Int) := by omega
 have y4 : ((en + 8 : Nat) : Int) ≤ (s.size : Int) := by omega
 unfold PTable.open_ at hT
 rw [if_neg (by omega), hl, show s.size - 20 = en by omega] at hT
 dsimp only at hT
 have N1 := Lib.hid (fun m w' => number_any (s.extract (en + 8) s.size) (by rw [ByteArray.size_extract]; omega) (by rw [ByteArray.size_extract]; omega) m w')
 have N2 := Lib.hid (fun m w' => number_any (s.extract en s.size) (by rw [ByteArray.size_extract]; omega) (by rw [ByteArray.size_extract]; omega) m w')
 rw [L_drop] at N1 N2
 have hi1 := PTable.unlow_lt (((L s).drop (en + 8)).take 8)
 have ha1 := PTable.unlow_lt (((L s).drop en).take 8)
 have hlen1 : ((((L s).drop (en + 8)).take 8)).length = 8 := by rw [List.length_take, List.length_drop, hl]; omega
 have hlen2 : ((((L s).drop en).take 8)).length = 8 := by rw [List.length_take, List.length_drop, hl]; omega
 rw [hlen1] at hi1
 rw [hlen2] at ha1
 generalize PTable.unlow (((L s).drop (en + 8)).take 8) = i at N1 hT hi1
 generalize PTable.unlow (((L s).drop en).take 8) = a at N2 hT ha1
 generalize hM : en + 8 = e8 at u2 y3 y4 N1
 by_cases hie : i ≤ en
 rotate_left
 ·have hTT : T = none := by rw [← hT, if_pos (fun h => hie h.1)]
  subst hTT
  clear hT
  have x1 : decide ((i : Int) ≤ IntKind.u64.wrap (en : Int)) = false := by rw [q0o (by omega) (by omega)]; exact decide_eq_false (by omega)
  have N1' := N1.out (en : Int)
  rw [x1] at N1'
  clear N1 x1
  have N1 := Lib.hid N1'
  clear N1' hi1 ha1 hlen1 hlen2 hie
  generalize wrap64 (i : Int) = iv at N1
  generalize wrap64 (a : Int) = av at N2
  obtain ⟨okv, hokv⟩ : ∃ okv, decide ((a : Int) ≤ IntKind.u64.wrap iv) = okv := ⟨_, rfl⟩
  have N2' := N2.out iv
  rw [hokv] at N2'
  have N2 := Lib.hid N2'
  clear N2' hokv
  go_enter Try.func17, Try.ntmps17
  go_wp2_with fail
  refine (N1.out _).mono ?_
  rintro e w1 ⟨rfl, hb1⟩
  go_wp2_with fail
  refine (N2.out _).mono ?_
  rintro e w2 ⟨rfl, hb2⟩
  have HB2 := q0d hb1 hb2
  go_wp2_with fail
  go_quiet (fail)
  go_wp2_with fail
  go_ret2
  exact ⟨rfl, q0z HB2 _⟩
 by_cases hai : a ≤ i
 rotate_left
 ·have hTT : T = none := by rw [← hT, if_pos (fun h => hai h.2.1)]
  subst hTT
  clear hT
  have x1 : decide ((i : Int) ≤ IntKind.u64.wrap (en : Int)) = true := by rw [q0o (by omega) (by omega)]; exact decide_eq_true (by omega)
  have x2 : decide ((a : Int) ≤ IntKind.u64.wrap (i : Int)) = false := by rw [q0o (by omega) (by omega)]; exact decide_eq_false (by omega)
  have N1' := N1.out (en : Int)
  have N2' := N2.out (i : Int)
  rw [x1, q0u (by omega) (by omega)] at N1'
  rw [x2] at N2'
  generalize wrap64 (a : Int) = av at N2'
  clear N1 N2 x1 x2
  have N1 := Lib.hid N1'
  have N2 := Lib.hid N2'
  clear N1' N2' hi1 ha1 hlen1 hlen2 hai hie
  go_enter Try.func17, Try.ntmps17
  go_wp2_with fail
  refine (N1.out _).mono ?_
  rintro e w1 ⟨rfl, hb1⟩
  go_wp2_with fail
  refine (N2.out _).mono ?_
  rintro e w2 ⟨rfl, hb2⟩
  have HB2 := q0d hb1 hb2
  go_wp2_with fail
  go_quiet (fail)
  go_wp2_with fail
  go_ret2
  exact ⟨rfl, q0z HB2 _⟩
 have x1 : decide ((i : Int) ≤ IntKind.u64.wrap (en : Int)) = true := by rw [q0o (by omega) (by omega)]; exact decide_eq_true (by omega)
 have x2 : decide ((a : Int) ≤ IntKind.u64.wrap (i : Int)) = true := by rw [q0o (by omega) (by omega)]; exact decide_eq_true (by omega)
 have N1' := N1.out (en : Int)
 have N2' := N2.out (i : Int)
 rw [x1, q0u (by omega) (by omega)] at N1'
 rw [x2, q0u (by omega) (by omega)] at N2'
 clear N1 N2 x1 x2 hi1 ha1 hlen1 hlen2
 have N1 := Lib.hid N1'
 have N2 := Lib.hid N2'
 clear N1' N2'
 have FT := Lib.hid (fun w' => foot_any a i (by omega) (by omega) w')
 obtain ⟨fb, hfb⟩ : ∃ fb, Txt.B (PTable.foot a i) = fb := ⟨_, rfl⟩
 rw [hfb] at FT
 by_cases hft : (L s).drop en = PTable.foot a i
 rotate_left
 ·have hTT : T = none := by rw [← hT, if_pos (fun h => hft h.2.2)]
  subst hTT
  clear hT
  have b1 : ((s.extract en s.size).toList == fb.toList) = false := beq_false_of_ne (by rw [Print.L_toList, Print.L_toList, L_drop, ← hfb, L_B]; exact hft)
  clear hft hfb hie hai
  go_enter Try.func17, Try.ntmps17
  go_wp2_with fail
  refine (N1.out _).mono ?_
  rintro e w1 ⟨rfl, hb1⟩
  go_wp2_with fail
  refine (N2.out _).mono ?_
  rintro e w2 ⟨rfl, hb2⟩
  have HB2 := q0d hb1 hb2
  clear hb1 hb2
  go_wp2_with fail
  go_region_held3 (fun _ => True) (trivial) (first | (((with_reducible refine (FT.out _).mono ?_); rintro e w3 ⟨rfl, hb3⟩)))
  have HB3 := q0d HB2.drew hb3
  go_wp2_with fail
  go_ret2
  exact ⟨rfl, HB3⟩
 have hse : (s.extract en s.size).toList = fb.toList := by rw [Print.L_toList, Print.L_toList, L_drop, hft, ← hfb, L_B]
 have b1 : ((s.extract en s.size).toList == fb.toList) = true := by rw [hse]; exact beq_self_eq_true _
 rw [if_neg (fun h => h ⟨hie, hai, hft⟩)] at hT
 have HT := Lib.hid hT
 clear hT hse
 go_enter Try.func17, Try.ntmps17
 go_wp2_with fail
 refine (N1.out _).mono ?_
 rintro e w1 ⟨rfl, hb1⟩
 go_wp2_with fail
 refine (N2.out _).mono ?_
 rintro e w2 ⟨rfl, hb2⟩
 have HB2 := q0d hb1 hb2
 clear hb1 hb2
 go_wp2_with fail
 go_region_held3 (fun _ => True) (trivial) (first | (((with_reducible refine (FT.out _).mono ?_); rintro e w3 ⟨rfl, hb3⟩)))
 have HB3 := q0d HB2.drew hb3
 clear HB2 hb3
 have x3 : (0 : Int) ≤ (a : Int) := by omega
 have x4 : (a : Int) ≤ (i : Int) := by omega
 have x5 : (i : Int) ≤ (s.size : Int) := by omega
 have x6 : (0 : Int) ≤ (i : Int) := by omega
 have x7 : (i : Int) ≤ (en : Int) := by omega
 have O1 := one_any (s.extract a i) (by rw [ByteArray.size_extract]; omega)
 have O2 := one_any (s.extract i en) (by rw [ByteArray.size_extract]; omega)
 rw [L_extract, List.drop_take] at O1 O2
 have hq1 := one_small (((L s).drop a).take (i - a))
 have hq2 := one_small (((L s).drop i).take (en - i))
 generalize PTable.one (((L s).drop a).take (i - a)) = o1 at O1 hq1 HT
 generalize PTable.one (((L s).drop i).take (en - i)) = o2 at O2 hq2 HT
 obtain ⟨f, okf⟩ := o1
 obtain ⟨p, okp⟩ := o2
 dsimp only at O1 O2 hq1 hq2
 have HO1 := Lib.hid O1
 have HO2 := Lib.hid O2
 have RW := rows_any (Txt.B p) (by rw [q0n]; omega)
 rw [L_B] at RW
 have hRf := rows_fit p
 have hRn := rows_len p
 generalize PBlock.rows p = rs at RW HT hRf hRn
 obtain ⟨rl, re⟩ := rs
 dsimp only at RW hRf hRn
 have HRW := Lib.hid RW
 have CK := Lib.hid (fun w' => Bloom.check_any (Txt.B f) w')
 obtain ⟨ck, hck⟩ : ∃ ck, Bloom.chk (Txt.B f) = ck := ⟨_, rfl⟩
 rw [hck] at CK
 have hckB : chkB f = (ck == 0) := by unfold chkB; rw [hck]
 clear O1 O2 RW
 generalize hfB : Txt.B f = FB at HO1 CK
 generalize hpB : Txt.B p = PB at HO2 HRW
 go_wp2_with fail
 have hOS : OS w (w3.alloc (.cells #[.string s, .string ⟨#[]⟩, .slice none 0 0, .bool true] 26)) w3.heap.size s ⟨#[]⟩ (.slice none 0 0) [] :=
  ⟨Blk.new w3 _ _, Kd.R_nil _ _ _ _ _, HB3.size, HB3.alloc HB3.size _⟩
 clear HB3
 generalize w3.alloc _ = W0 at hOS ⊢
 generalize w3.heap.size = bt at hOS ⊢
 refine (HO1.out _).mono ?_
 rintro e w4 ⟨rfl, hb4⟩
 have hOS4 := hOS.below hb4
 go_wp2_with fail
 refine (HO2.out _).mono ?_
 rintro e w5 ⟨rfl, hb5⟩
 have hOS5 := hOS4.below hb5
 go_wp2_with fail
 refine (HRW.out _).mono ?_
 rintro e w6 ⟨vr, rfl, hRr, hb6⟩
 have hOS6 := hOS5.below hb6
 have hRr := Kd.R_lower hRr hOS5.low.size
 clear hOS hOS4 hOS5 hb4 hb5 hb6 HO1 HO2 HRW
 obtain ⟨Ar, cr, rfl, hcr, hCr⟩ := Kd.R_reads hRr
 rw [List.length_map] at hcr hCr hRr ⊢
 cases okf with
 | false =>
  have hTT : T = none := by rw [← HT.out, if_pos (fun h => by cases h.1)]
  subst hTT
  go_wp2_with fail
  go_ret2
  exact ⟨rfl, hOS6.low⟩
 | true =>
 cases okp with
 | false =>
  have hTT : T = none := by rw [← HT.out, if_pos (fun h => by cases h.2.1)]
  subst hTT
  go_wp2_with fail
  go_ret2
  exact ⟨rfl, hOS6.low⟩
 | true =>
 by_cases hre : re ≠ 0
 ·have m1 : ((re : Int) != 0) = true := by simp [hre]
  have hTT : T = none := by rw [← HT.out, if_pos (fun h => hre h.2.2.1)]
  subst hTT
  go_wp2_with fail
  go_ret2
  exact ⟨rfl, hOS6.low⟩
 obtain rfl : re = 0 := by omega
 clear hre
 by_cases hcz : ck ≠ 0
 ·have m1 : ((ck : Int) != 0) = true := by simp [hcz]
  have hTT : T = none := by rw [← HT.out, if_pos (fun h => hcz (by have := h.2.2.2; rw [hckB] at this; simpa using this))]
  subst hTT
  go_wp2_with fail
  refine (CK.out _).mono ?_
  rintro e w7 ⟨rfl, hb7⟩
  go_wp2_with fail
  go_ret2
  exact ⟨rfl, q0d hOS6.low hb7⟩
 obtain rfl : ck = 0 := by omega
 clear hcz
 have hTp : (match PTable.partsOf a [] none rl with | none => none | some ps => if rl = [] ∧ a ≠ 0 then none else some (⟨L s, f, ps⟩ : PTable.Tab)) = T := by
  rw [← HT.out, if_neg (fun h => h ⟨rfl, rfl, rfl, by rw [hckB]; rfl⟩)]
  cases PTable.partsOf a [] none rl <;> rfl
 have HTP := Lib.hid hTp
 clear HT hTp hckB
 go_wp2_with fail
 refine (CK.out _).mono ?_
 rintro e w7 ⟨rfl, hb7⟩
 have hOS7 := hOS6.below hb7
 have hRr7 := Kd.R_below hRr hb7
 have ct := (hOS7.tab.cell 1).trans rfl
 have ft := hOS7.tab.frozen 1
 have lt := hOS7.tab.lt
 go_wp2_with fail
 have hOS8 : OS w (w7.setCell ⟨bt, 1, none⟩ (.string FB)) bt s FB (.slice none 0 0) [] :=
  ⟨hOS7.tab.set_ 1 _, Kd.R_nil _ _ _ _ _, hOS7.g, hOS7.low.setCell (p := ⟨bt, 1, none⟩) hOS7.g _⟩
 have hRr8 := Kd.R_set hRr7 hOS7.tab (by intro q hq; rw [List.mem_singleton.1 hq]; decide) 1 (.string FB)
 clear hOS7 hRr7 ct ft lt hb7 hOS6 hRr hCr
 generalize w7.setCell _ _ = W1 at hOS8 hRr8 ⊢
 have hrl : rl.length ≤ 1000000 := by omega
 have HFB := Lib.hid hfB
 clear N1 N2 FT CK hfB hpB hck hq1 hq2 b1 hfb hft u1 u2 y1 y2 y3 y4 x3 x4 x5 x6 x7 hM t1 t2 hen
 go_loopw [14, 107] (fun v14 v107 wr => ∃ (k : Nat) (ps : List PTable.Part) (bf : Option Nat) (v : Value), k ≤ rl.length ∧ v107 = .int .i64 k ∧ v14 = .int .i64 (befI bf) ∧ PTable.partsOf a [] none rl = PTable.partsOf a ps bf (rl.drop k) ∧ OS w wr bt s FB v (ps.map partB) ∧ Kd.R k28 28 wr w.heap.size (fun _ => True) (.slice Ar rl.length cr) (rl.map rowB) ∧ (bf = none ↔ ps = []) ∧ ps.length ≤ k) (fun _ v107 _ => rl.length - (intOf v107).toNat)
 case atStart => exact ⟨0, [], none, .slice none 0 0, by omega, rfl, rfl, rfl, hOS8, hRr8, by simp, by simp⟩
 case round =>
  obtain ⟨k, ps, bf, v, hk, rfl, rfl, hP, hS, hR, hbf, hpk⟩ := hrel
  by_cases hlt : k < rl.length
  ·have t5 : ((k : Int) < (rl.length : Int)) = True := eq_true (by omega)
   have hC := (Kd.R_reads' hR).2.2
   rw [List.length_map] at hC
   obtain ⟨ad, rfl, k0, k1, k2, k3⟩ := q15 hC (k : Int) (by omega) (by omega)
   have ek : q0i (rl.map rowB) (k : Int) = rowB rl[k] := by
    rw [q1h (rl.map rowB) k (by rw [List.length_map]; exact hlt), List.getElem_map]
   rw [ek, Int.toNat_natCast] at k0 k1 k2 k3
   have hd : rl.drop k = rl[k] :: rl.drop (k + 1) := List.drop_eq_getElem_cons hlt
   rw [hd] at hP
   have hf := hRf rl[k] (List.getElem_mem hlt)
   obtain ⟨q, ok, htell, hEN⟩ := entry_any (rowB rl[k]) ⟨Int.natCast_nonneg _, by show (rl[k].seq : Int) < _; omega⟩ (by show (Txt.B rl[k].value).size ≤ _; rw [q0n]; exact hf.2)
   unfold Tells at htell
   rw [rowS_rowB] at htell
   rw [PTable.partsOf] at hP
   generalize PTable.entryOf rl[k] = en_ at htell hP
   have HP := Lib.hid hP
   have HEN := Lib.hid hEN
   have HTL := Lib.hid htell
   have HBF := Lib.hid hbf
   have HRF := Lib.hid hRf
   clear hP hEN hf hd ek htell hbf hRf
   generalize rowB rl[k] = x at k0 k1 k2 k3 HEN
   obtain ⟨x0, x1, x2, x3⟩ := x
   dsimp only at k0 k1 k2 k3 HEN
   go_wp2_with fail
   have BX := Blk.new wr 28 #[.string x0, .int .u64 x1, .int .i64 x2, .string x3]
   have hbx := (Below.refl wr.heap.size wr).alloc (Nat.le_refl _) (.cells #[.string x0, .int .u64 x1, .int .i64 x2, .string x3] 28)
   have hS2 := hS.below hbx
   have hR2 := Kd.R_below hR hbx
   obtain ⟨q0, q1, q2, q3, q4, q5⟩ := q
   refine (HEN.out _).mono ?_
   rintro e w8 ⟨rfl, hb8⟩
   have hS3 := hS2.below hb8
   have hR3 := Kd.R_below hR2 hb8
   clear hS hS2 hR hR2 hbx hb8 BX k0 k1 k2 k3 hC HEN
   have BP := Blk.new w8 65 #[.string q0, .string q1, .int .u64 q2, .int .i64 q3, .int .i64 q4, .int .i64 q5]
   have hbp := (Below.refl w8.heap.size w8).alloc (Nat.le_refl _) (.cells #[.string q0, .string q1, .int .u64 q2, .int .i64 q3, .int .i64 q4, .int .i64 q5] 65)
   have hS4 := hS3.below hbp
   have hbp5 : ∀ y z : Value, Below w8.heap.size w8 (w8.alloc (.cells #[.string q0, .string q1, .int .u64 q2, .int .i64 q3, y, z] 65)) := fun y z => (Below.refl w8.heap.size w8).alloc (Nat.le_refl _) _
   have hS5 := fun y z => hS3.below (hbp5 y z)
   have hR5 := fun y z => Kd.R_below hR3 (hbp5 y z)
   have BP5 := fun y z => Blk.new w8 65 #[.string q0, .string q1, .int .u64 q2, .int .i64 q3, y, z]
   have hrow4 : Kd.R k65 65 (w8.alloc (.cells #[.string q0, .string q1, .int .u64 q2, .int .i64 q3, .int .i64 q4, .int .i64 q5] 65)) w.heap.size (fun k => k ≠ w8.heap.size) v (ps.map partB) :=
    Kd.R_below (Kd.R_mono (Kd.R_bound hS3.row) (fun k hk => by omega)) hbp
   have hR4 := Kd.R_below hR3 hbp
   have hwb : w.heap.size ≤ w8.heap.size := hS3.low.size
   clear hS3 hR3 hbp hbp5
   have hnone : PTable.partsOf a [] none rl = none → T = none := fun h => by rw [← HTP.out, h]
   have HNO := Lib.hid hnone
   clear hnone
   cases en_ with
   | none =>
    have hTT := HNO.out HP.out
    obtain rfl : ok = false := HTL.out
    subst hTT
    go_wp2_with fail
    go_ret2
    exact ⟨rfl, hS4.low⟩
   | some x =>
    obtain ⟨hok, hq⟩ : ok = true ∧ (⟨q0, q1, q2, q3, q4, q5⟩ : S65) = partB x := HTL.out
    subst hok
    have hP := HP.out
    clear HP HTL
    dsimp only at hP
    have hpart : (⟨q0, q1, q2, q3, q4, (a : Int)⟩ : S65) = partB (⟨x.first, x.last, x.seq, x.rows, x.from_, a⟩ : PTable.Part) := by
     unfold partB at hq ⊢
     injection hq with a0 a1 a2 a3 a4 a5
     rw [a0, a1, a2, a3, a4]
    have HPT := Lib.hid hpart
    clear hpart
    have e4 : q4 = (x.from_ : Int) := congrArg (fun p : S65 => p.f4) hq
    have HE4 := Lib.hid e4
    clear hq
    cases bf with
    | none =>
     obtain rfl : ps = [] := HBF.out.1 rfl
     rw [show befI none = -1 from rfl]
     have z1 : decide (q4 ≤ -1) = false := decide_eq_false (by omega)
     by_cases hb0 : x.from_ ≠ 0
     ·have m1 : (q4 != 0) = true := by rw [e4]; simp [hb0]
      have hTT := HNO.out (by rw [hP, if_neg (fun h => hb0 (by simpa [PTable.beginsOk] using h.1))])
      subst hTT
      clear hP e4 hb0
      go_wp2_with fail
      go_ret2
      exact ⟨rfl, hS4.low⟩
     have hb1 : x.from_ = 0 := by omega
     have m1 : (q4 != 0) = false := by rw [e4, hb1]; rfl
     have z3 : decide ((a : Int) < q4) = false := decide_eq_false (by omega)
     rw [if_pos ⟨by rw [hb1]; rfl, by omega⟩] at hP
     have HP := Lib.hid hP
     have HB1 := Lib.hid hb1
     have hS5 := hS5 (.int .i64 q4) (.int .i64 (a : Int))
     have hR5 := hR5 (.int .i64 q4) (.int .i64 (a : Int))
     have BP5 := BP5 (.int .i64 q4) (.int .i64 (a : Int))
     clear hP hb0 hb1 e4
     go_wp2_with fail
     clear z1 m1 z3
     generalize w8.alloc _ = W5 at hS5 hR5 BP5 ⊢
     generalize w8.heap.size = bx at BP5 ⊢
     have ct := (hS5.tab.cell 2).trans rfl
     have lt := hS5.tab.lt
     have r0 := (BP5.cell 0).trans rfl
     have r1 := (BP5.cell 1).trans rfl
     have r2 := (BP5.cell 2).trans rfl
     have r3 := (BP5.cell 3).trans rfl
     have r4 := (BP5.cell 4).trans rfl
     have r5 := (BP5.cell 5).trans rfl
     have hS6 := hS5.below (Below.refl W5.heap.size W5).drew
     have hR6 := Kd.R_drew hR5
     go_region_law (first | (refine Kd.R_append_step k65 (w0 := w) w.heap.size (by rfl) (.tmp 163) (.tmp 165) 24 65 (.agg #[.string ⟨#[]⟩, .string ⟨#[]⟩, .int .u64 0, .int .i64 0, .int .i64 0, .int .i64 0]) 64 rfl Try.underlying24 infoPart rfl (by decide) (by omega) v _ (⟨q0, q1, q2, q3, q4, (a : Int)⟩ : S65) [.string q0, .string q1, .int .u64 q2, .int .i64 q3, .int .i64 q4, .int .i64 (a : Int)] (fun _ => True) (fun _ => False) rfl rfl (k65_mkM _ _ _ _) (fun _ h => h.elim) (fun _ _ => trivial) hS6.row hS6.low hS6.low.size (by simp only [List.length_nil, List.map_nil]; omega) ?_; intro v' w9 hR9 hb9 hg9 _; obtain ⟨A', c', rfl⟩ := Kd.R_slice hR9; obtain ⟨cb, fb, lb, hS9, hR9'⟩ := hS6.push hR6 hR9 hg9 hb9))
     all_goals
      go_wp2_with fail
      go_roundw
      case rel =>
       rw [HPT.out] at hS9
       exact ⟨k + 1, [(⟨x.first, x.last, x.seq, x.rows, x.from_, a⟩ : PTable.Part)], some x.from_, _, by omega, by go_num, by rw [HE4.out]; rfl, HP.out, hS9, hR9', by simp, by rw [List.length_singleton]; omega⟩
      case measure => simp [intOf]; omega
    | some b =>
     rw [show befI (some b) = (b : Int) from rfl]
     have hne : ps ≠ [] := fun e => by have := HBF.out.2 e; cases this
     have z2 : decide ((b : Int) < 0) = false := decide_eq_false (by omega)
     have z4 : decide ((0 : Int) ≤ (b : Int)) = true := decide_eq_true (by omega)
     by_cases hb0 : x.from_ ≤ b
     ·have z1 : decide (q4 ≤ (b : Int)) = true := decide_eq_true (by omega)
      have hTT := HNO.out (by rw [hP, if_neg (fun h => by have := h.1; simp [PTable.beginsOk] at this; omega)])
      subst hTT
      clear hP e4 hb0
      go_wp2_with fail
      go_ret2
      exact ⟨rfl, hS4.low⟩
     have z1 : decide (q4 ≤ (b : Int)) = false := decide_eq_false (by omega)
     by_cases hba : a < x.from_
     ·have z3 : decide ((a : Int) < q4) = true := decide_eq_true (by omega)
      have hTT := HNO.out (by rw [hP, if_neg (fun h => by have := h.2; omega)])
      subst hTT
      clear hP e4 hb0 hba
      go_wp2_with fail
      go_ret2
      exact ⟨rfl, hS4.low⟩
     have z3 : decide ((a : Int) < q4) = false := decide_eq_false (by omega)
     rw [if_pos ⟨by simp [PTable.beginsOk]; omega, by omega⟩] at hP
     have HP := Lib.hid hP
     obtain ⟨ps0, pl, rfl⟩ : ∃ ps0 pl, ps = ps0 ++ [pl] := ⟨ps.dropLast, ps.getLast hne, (List.dropLast_concat_getLast hne).symm⟩
     have hpl : ((ps0 ++ [pl]).map partB).length = ps0.length + 1 := by simp
     obtain ⟨g, cap, rfl, hgb, hgs, cells, hgc⟩ := Kd.R_form hrow4 (by omega)
     rw [hpl] at hrow4 hS4
     have hgx : g ≠ w8.heap.size := (hrow4.1 g (by simp [Value.ownBlock]))
     obtain ⟨⟨uu, hcu⟩, hfu, hrow5⟩ := R_to hrow4 ps0.length (by omega) q4
     have hst := set_to ps0 pl x.from_ q4 e4
     rw [hst] at hrow5
     have HPL := Lib.hid hpk
     clear hP hb0 hba hne e4 hst hpl hpk
     have BPd := BP
     have hgbt : bt ≠ g := fun e => by
      have := hS4.tab
      unfold Blk at this
      rw [e, hgc] at this
      simp only [Option.some.injEq, Obj.cells.injEq] at this
      exact absurd this.2.1 (by decide)
     generalize hMM : ps0.length = m at hS4 hrow4 hcu hfu hrow5
     have e1 : IntKind.i64.wrap (((m + 1 : Nat) : Int) - 1) = (m : Int) := by rw [show ((m + 1 : Nat) : Int) - 1 = (m : Int) by omega]; exact IntWalk.i64_in _ (by have := HPL.out; simp at this; omega)
     have y1 : (0 : Int) ≤ (m : Int) := by omega
     have y2 : (m : Int) < ((m + 1 : Nat) : Int) := by omega
     have y3 : (m < m + 1) = True := eq_true (by omega)
     have y5 : ((m : Int) < ((m + 1 : Nat) : Int)) = True := eq_true (by omega)
     generalize hM1 : m + 1 = m1 at hS4 hrow4 hrow5 e1 y2 y3 y5
     have ct : (w8.alloc (.cells #[.string q0, .string q1, .int .u64 q2, .int .i64 q3, .int .i64 q4, .int .i64 q5] 65)).cell? ⟨bt, 2, none⟩ = some (.slice (some ⟨g, 0, none⟩) m1 cap) := (hS4.tab.cell 2).trans rfl
     have lt := hS4.tab.lt
     have p4 : (w8.alloc (.cells #[.string q0, .string q1, .int .u64 q2, .int .i64 q3, .int .i64 q4, .int .i64 q5] 65)).cell? ⟨w8.heap.size, 4, none⟩ = some (.int .i64 q4) := (BP.cell 4).trans rfl
     go_wp2_with fail
     generalize w8.alloc _ = W4 at hS4 hR4 BP hrow4 hcu hfu hrow5 hgc ct lt p4 ⊢
     generalize w8.heap.size = bx at BP hrow4 hrow5 hgx p4 hwb ⊢
     have cta : (W4.drew.setCell ⟨g, m * 6 + 5, none⟩ (.int .i64 q4)).cell? ⟨bt, 2, none⟩ = some (.slice (some ⟨g, 0, none⟩) m1 cap) := (World.cell?_setCell_other W4.drew _ _ _ (fun e => hgbt (congrArg Addr.block e).symm)).trans ct
     have p4a : (W4.drew.setCell ⟨g, m * 6 + 5, none⟩ (.int .i64 q4)).cell? ⟨bx, 4, none⟩ = some (.int .i64 q4) := (World.cell?_setCell_other W4.drew _ _ _ (fun e => hgx (congrArg Addr.block e))).trans p4
     go_region_held3 (fun w' => w'.cell? ⟨bt, 2, none⟩ = some (.slice (some ⟨g, 0, none⟩) m1 cap) ∧ w'.cell? ⟨bx, 4, none⟩ = some (.int .i64 q4)) (first | exact ⟨ct, p4⟩ | exact ⟨cta, p4a⟩) (fail)
     have hS6 : OS w (W4.setCell ⟨g, m * 6 + 5, none⟩ (.int .i64 q4)).drew bt s FB (.slice (some ⟨g, 0, none⟩) m1 cap) ((PTable.setTo (ps0 ++ [pl]) x.from_).map partB) :=
      ⟨(hS4.tab.far hgbt _).drew, Kd.R_drew (Kd.R_mono hrow5 (fun _ _ => trivial)), hS4.g, (hS4.low.setCell (p := ⟨g, m * 6 + 5, none⟩) hgb _).drew⟩
     have hrow6 := Kd.R_drew hrow5
     have hR6 := Kd.R_drew (Kd.R_mono (Kd.R_set hR4 (g := g) (t := 65) (cells := cells) hgc (by intro q hq; rw [List.mem_singleton.1 hq]; decide) (m * 6 + 5) (.int .i64 q4)) (ok' := fun _ => True) (fun _ _ => trivial))
     have BP6 := (BP.far (p := ⟨g, m * 6 + 5, none⟩) (Ne.symm hgx) (.int .i64 q4)).drew
     clear ct lt p4 cta p4a hrow4 hrow5 hcu hfu hgc hS4 hR4 BP
     generalize (W4.setCell _ _).drew = W6 at hS6 hrow6 hR6 BP6 ⊢
     have p4 := (BP6.cell 4).trans rfl
     have p5 := (BP6.cell 5).trans rfl
     have f5 := BP6.frozen 5
     have l5 := BP6.lt
     go_wp2_with fail
     have hS7 : OS w (W6.setCell ⟨bx, 5, none⟩ (.int .i64 (a : Int))) bt s FB (.slice (some ⟨g, 0, none⟩) m1 cap) ((PTable.setTo (ps0 ++ [pl]) x.from_).map partB) :=
      ⟨hS6.tab.far (hS6.tab.ne_ BP6 (by decide)) _, Kd.R_mono (Kd.R_far hrow6 (fun k hk => hk) _) (fun _ _ => trivial), hS6.g, hS6.low.setCell (p := ⟨bx, 5, none⟩) hwb _⟩
     have hrow7 := Kd.R_far (p := ⟨bx, 5, none⟩) hrow6 (fun k hk => hk) (.int .i64 (a : Int))
     have hR7 := Kd.R_mono (Kd.R_set hR6 BP6 (by intro q hq; rw [List.mem_singleton.1 hq]; decide) 5 (.int .i64 (a : Int))) (ok' := fun _ => True) (fun _ _ => trivial)
     have BP7 := BP6.set_ 5 (.int .i64 (a : Int))
     clear hS6 hrow6 hR6 BP6 p4 p5 f5 l5 z1 z2 z3 z4 e1 y1 y2 y3 y5
     generalize W6.setCell _ _ = W7 at hS7 hrow7 hR7 BP7 ⊢
     have ct := (hS7.tab.cell 2).trans rfl
     have lt := hS7.tab.lt
     have r0 := (BP7.cell 0).trans rfl
     have r1 := (BP7.cell 1).trans rfl
     have r2 := (BP7.cell 2).trans rfl
     have r3 := (BP7.cell 3).trans rfl
     have r4 := (BP7.cell 4).trans rfl
     have r5 := (BP7.cell 5).trans rfl
     have hS8 := hS7.below (Below.refl W7.heap.size W7).drew
     have hR8 := Kd.R_drew hR7
     have hrow8 := Kd.R_mono (Kd.R_drew hrow7) (ok' := fun _ => True) (fun _ _ => trivial)
     go_region_law (first | (refine Kd.R_append_step k65 (w0 := w) w.heap.size (by rfl) (.tmp 163) (.tmp 165) 24 65 (.agg #[.string ⟨#[]⟩, .string ⟨#[]⟩, .int .u64 0, .int .i64 0, .int .i64 0, .int .i64 0]) 64 rfl Try.underlying24 infoPart rfl (by decide) (by omega) (.slice (some ⟨g, 0, none⟩) m1 cap) _ (⟨q0, q1, q2, q3, q4, (a : Int)⟩ : S65) [.string q0, .string q1, .int .u64 q2, .int .i64 q3, .int .i64 q4, .int .i64 (a : Int)] (fun _ => True) (fun _ => False) rfl rfl (k65_mkM _ _ _ _) (fun _ h => h.elim) (fun _ _ => trivial) hrow8 hS8.low hS8.low.size (by have := HPL.out; simp only [List.length_map, PTable.setTo_length] at this ⊢; omega) ?_; intro v' w9 hR9 hb9 hg9 _; obtain ⟨A', c', rfl⟩ := Kd.R_slice hR9; obtain ⟨cb, fb, lb, hS9, hR9'⟩ := hS8.push hR8 hR9 hg9 hb9))
     all_goals
      go_wp2_with fail
      go_roundw
      case rel =>
       rw [List.length_append, List.length_map, List.length_singleton] at hS9 hR9'
       rw [HPT.out] at hS9
       exact ⟨k + 1, PTable.setTo (ps0 ++ [pl]) x.from_ ++ [(⟨x.first, x.last, x.seq, x.rows, x.from_, a⟩ : PTable.Part)], some x.from_, _, by omega, by go_num, by rw [HE4.out]; rfl, HP.out, by rw [List.map_append]; exact hS9, hR9', by simp, by have := HPL.out; rw [List.length_append, PTable.setTo_length, List.length_singleton]; omega⟩
      case measure => simp [intOf]; omega
  ·have t5 : ((k : Int) < (rl.length : Int)) = False := eq_false (by omega)
   obtain rfl : k = rl.length := by omega
   rw [List.drop_length] at hP
   have hPP : PTable.partsOf a [] none rl = some ps := hP
   obtain ⟨A, c, hAt⟩ := hS.at_
   have HBF := Lib.hid hbf
   have HRF := Lib.hid hRf
   clear hP hbf hRf hR
   by_cases hz : rl = []
   ·subst hz
    have t6 : ((([] : List PBlock.Row).length : Int) == 0) = true := rfl
    by_cases ha0 : a = 0
    ·have t7 : ((a : Int) != 0) = false := by rw [ha0]; rfl
     have hTT : T = some ⟨L s, f, ps⟩ := by rw [← HTP.out, hPP]; exact if_neg (fun h => h.2 ha0)
     subst hTT
     clear hPP HTP ha0
     go_wp2_with fail
     go_ret2
     exact ⟨⟨bt, A, c, rfl, by rw [B_L, HFB.out]; exact hAt, hS.g⟩, hS.low⟩
    ·have t7 : ((a : Int) != 0) = true := by simp [ha0]
     have hTT : T = none := by rw [← HTP.out, hPP]; exact if_pos ⟨rfl, ha0⟩
     subst hTT
     clear hPP HTP ha0
     go_wp2_with fail
     go_ret2
     exact ⟨rfl, hS.low⟩
   ·have t6 : ((rl.length : Int) == 0) = false := beq_false_of_ne (by have := List.length_pos_iff.2 hz; omega)
    have hTT : T = some ⟨L s, f, ps⟩ := by rw [← HTP.out, hPP]; exact if_neg (fun h => hz h.1)
    subst hTT
    clear hPP HTP hz
    go_wp2_with fail
    go_ret2
    exact ⟨⟨bt, A, c, rfl, by rw [B_L, HFB.out]; exact hAt, hS.g⟩, hS.low⟩
end Go.Proofs.Ytaigmemmgjlhgaa.Tab
