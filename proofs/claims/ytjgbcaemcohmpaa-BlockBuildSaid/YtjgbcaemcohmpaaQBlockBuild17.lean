/- Texts of this claim, joined by a program of this session (wip/pack.py): Print16, RefBlk. -/
import Derived.Test.YtjgbcaemcohmpaaQBlockBuild4
import Derived.Test.YtjgbcaemcohmpaaQBlockBuild6
import Derived.Test.YtjgbcaemcohmpaaQBlockBuild8
import Derived.Test.YtjgbcaemcohmpaaQBlockBuild9
import Derived.Test.YtjgbcaemcohmpaaQBlockBuild14
import Derived.Test.YtjgbcaemcohmpaaQBlockBuild16
-- Print16
namespace Go.Proofs.Ytjgbcaemcohmpaa.Print
open Go.RowKit Go.Proofs.YtjgbcaemcohmpaaW.PrintWords Go.Proofs.YtjgbcaemcohmpaaW.PrintLast Go.Proofs.YtjgbcaemcohmpaaW.PrintMore
attribute [local go_sem] max2_int min2_int max_two min_two max_three min_three max_four min_four   -- for this text's walks alone
set_option linter.unusedVariables false
set_option linter.unusedSimpArgs false

mutual
def freshetref11_Build.j0 : Nat → List (S31) → Int → Bool → Option (ByteArray × Int)
  | 0, _, _, _ => none
  | k + 1, x0, x1, x23 => if x23 = true then (some ((⟨#[]⟩ : ByteArray), 2)) else (freshetref11_Build.l0 k x0 x1 (decide ((x0.length : Int) > 1024)) 0)
def freshetref11_Build.l0 : Nat → List (S31) → Int → Bool → Int → Option (ByteArray × Int)
  | 0, _, _, _, _ => none
  | k + 1, x0, x1, x6, x7 => if x7 < (x0.length : Int) then (if 0 ≤ x7 then ((freshetref11_Check.f k ((rd_T31 x0 x7).f0) ((rd_T31 x0 x7).f1) ((rd_T31 x0 x7).f2) ((rd_T31 x0 x7).f3)).bind fun t193 => (if t193 = 2 then (some ((⟨#[]⟩ : ByteArray), t193)) else (if x6 = true then (freshetref11_Build.l0 k x0 x1 true (wrap64 (x7 + 1))) else (freshetref11_Build.l0 k x0 x1 (t193 == 3) (wrap64 (x7 + 1)))))) else (none)) else (if x6 = true then (some ((⟨#[]⟩ : ByteArray), 3)) else (freshetref11_Build.l1 k x0 x1 (⟨#[]⟩ : ByteArray) (⟨#[]⟩ : ByteArray) 0))
def freshetref11_Build.l1 : Nat → List (S31) → Int → ByteArray → ByteArray → Int → Option (ByteArray × Int)
  | 0, _, _, _, _, _ => none
  | k + 1, x0, x1, x9, x10, x11 => if x11 < (x0.length : Int) then (if x1 = 0 then (none) else (if (Int.tmod x11 x1) = 0 then ((freshetref11_four.f (x9.size : Int)).bind fun t194 => (if x10.size + t194.size ≤ 9223372036854775807 then (if 0 ≤ x11 then ((freshetref11_row.f k ((rd_T31 x0 x11).f0) ((rd_T31 x0 x11).f1) ((rd_T31 x0 x11).f2) ((rd_T31 x0 x11).f3) (⟨#[]⟩ : ByteArray)).bind fun t196 => (if x9.size + t196.size ≤ 9223372036854775807 then (if ((x9 ++ t196).size : Int) > 65536 then (some ((⟨#[]⟩ : ByteArray), 3)) else (freshetref11_Build.l1 k x0 x1 (x9 ++ t196) (x10 ++ t194) (wrap64 (x11 + 1)))) else (none))) else (none)) else (none))) else (if 0 ≤ (wrap64 (x11 - 1)) then (if (wrap64 (x11 - 1)) < (x0.length : Int) then (if 0 ≤ x11 then ((freshetref11_row.f k ((rd_T31 x0 x11).f0) ((rd_T31 x0 x11).f1) ((rd_T31 x0 x11).f2) ((rd_T31 x0 x11).f3) ((rd_T31 x0 (wrap64 (x11 - 1))).f0)).bind fun t199 => (if x9.size + t199.size ≤ 9223372036854775807 then (if ((x9 ++ t199).size : Int) > 65536 then (some ((⟨#[]⟩ : ByteArray), 3)) else (freshetref11_Build.l1 k x0 x1 (x9 ++ t199) x10 (wrap64 (x11 + 1)))) else (none))) else (none)) else (none)) else (none)))) else (if x9.size + x10.size ≤ 9223372036854775807 then ((freshetref11_four.f (wrap64 ((x10.size : Int) / 4))).bind fun t200 => (if (x9 ++ x10).size + t200.size ≤ 9223372036854775807 then ((freshetref11_four.f x1).bind fun t201 => (if ((x9 ++ x10) ++ t200).size + t201.size ≤ 9223372036854775807 then (if ((((x9 ++ x10) ++ t200) ++ t201).size : Int) > 65536 then (some ((⟨#[]⟩ : ByteArray), 3)) else (some (((x9 ++ x10) ++ t200) ++ t201, 0))) else (none))) else (none))) else (none))
end
def freshetref11_Build.f (k : Nat) (l0 : List (S31)) (a1 : Int) : Option (ByteArray × Int) := if a1 < 1 then (freshetref11_Build.j0 k l0 a1 true) else (if a1 > 64 then (freshetref11_Build.j0 k l0 a1 true) else ((freshetref11_Order.f k l0).bind fun t191 => (freshetref11_Build.j0 k l0 a1 (!t191))))
theorem freshetref11_Build.mono_l : ∀ k, (∀ y0 y1 y2, LeO (freshetref11_Build.j0 k y0 y1 y2) (freshetref11_Build.j0 (k + 1) y0 y1 y2)) ∧ (∀ y0 y1 y2 y3, LeO (freshetref11_Build.l0 k y0 y1 y2 y3) (freshetref11_Build.l0 (k + 1) y0 y1 y2 y3)) ∧ (∀ y0 y1 y2 y3 y4, LeO (freshetref11_Build.l1 k y0 y1 y2 y3 y4) (freshetref11_Build.l1 (k + 1) y0 y1 y2 y3 y4))
  | 0 => ⟨fun _ _ _ r h => by simp [freshetref11_Build.j0] at h, fun _ _ _ _ r h => by simp [freshetref11_Build.l0] at h, fun _ _ _ _ _ r h => by simp [freshetref11_Build.l1] at h⟩
  | k + 1 => by
    obtain ⟨ih0, ih1, ih2⟩ := freshetref11_Build.mono_l k
    refine ⟨?_, ?_, ?_⟩
    · intro y0 y1 y2
      unfold freshetref11_Build.j0
      repeat' first
      | (with_reducible exact ih0 _ _ _)
      | (with_reducible exact ih1 _ _ _ _)
      | (with_reducible exact ih2 _ _ _ _ _)
      | (with_reducible exact freshetref11_Check.mono _ _ _ _ _)
      | (with_reducible exact freshetref11_Order.mono _ _)
      | (with_reducible exact freshetref11_row.mono _ _ _ _ _ _)
      | (with_reducible exact LeO.refl _)
      | (with_reducible exact LeO.none _)
      | (with_reducible refine LeO.ite ?_ ?_)
      | (with_reducible refine LeO.bind ?_ (fun _ => ?_))
      | exact ih0 _ _ _
      | exact ih1 _ _ _ _
      | exact ih2 _ _ _ _ _
      | exact freshetref11_Check.mono _ _ _ _ _
      | exact freshetref11_Order.mono _ _
      | exact freshetref11_row.mono _ _ _ _ _ _
      | exact LeO.none _
      | refine LeO.ite ?_ ?_
      | refine LeO.bind ?_ (fun _ => ?_)
    · intro y0 y1 y2 y3
      unfold freshetref11_Build.l0
      repeat' first
      | (with_reducible exact ih0 _ _ _)
      | (with_reducible exact ih1 _ _ _ _)
      | (with_reducible exact ih2 _ _ _ _ _)
      | (with_reducible exact freshetref11_Check.mono _ _ _ _ _)
      | (with_reducible exact freshetref11_Order.mono _ _)
      | (with_reducible exact freshetref11_row.mono _ _ _ _ _ _)
      | (with_reducible exact LeO.refl _)
      | (with_reducible exact LeO.none _)
      | (with_reducible refine LeO.ite ?_ ?_)
      | (with_reducible refine LeO.bind ?_ (fun _ => ?_))
      | exact ih0 _ _ _
      | exact ih1 _ _ _ _
      | exact ih2 _ _ _ _ _
      | exact freshetref11_Check.mono _ _ _ _ _
      | exact freshetref11_Order.mono _ _
      | exact freshetref11_row.mono _ _ _ _ _ _
      | exact LeO.none _
      | refine LeO.ite ?_ ?_
      | refine LeO.bind ?_ (fun _ => ?_)
    · intro y0 y1 y2 y3 y4
      unfold freshetref11_Build.l1
      repeat' first
      | (with_reducible exact ih0 _ _ _)
      | (with_reducible exact ih1 _ _ _ _)
      | (with_reducible exact ih2 _ _ _ _ _)
      | (with_reducible exact freshetref11_Check.mono _ _ _ _ _)
      | (with_reducible exact freshetref11_Order.mono _ _)
      | (with_reducible exact freshetref11_row.mono _ _ _ _ _ _)
      | (with_reducible exact LeO.refl _)
      | (with_reducible exact LeO.none _)
      | (with_reducible refine LeO.ite ?_ ?_)
      | (with_reducible refine LeO.bind ?_ (fun _ => ?_))
      | exact ih0 _ _ _
      | exact ih1 _ _ _ _
      | exact ih2 _ _ _ _ _
      | exact freshetref11_Check.mono _ _ _ _ _
      | exact freshetref11_Order.mono _ _
      | exact freshetref11_row.mono _ _ _ _ _ _
      | exact LeO.none _
      | refine LeO.ite ?_ ?_
      | refine LeO.bind ?_ (fun _ => ?_)
theorem freshetref11_Build.mono : ∀ a0 a1 k, LeO (freshetref11_Build.f k a0 a1) (freshetref11_Build.f (k + 1) a0 a1) := by
  intro a0 a1 k
  obtain ⟨ih0, ih1, ih2⟩ := freshetref11_Build.mono_l k
  unfold freshetref11_Build.f
  repeat' first
      | (with_reducible exact ih0 _ _ _)
      | (with_reducible exact ih1 _ _ _ _)
      | (with_reducible exact ih2 _ _ _ _ _)
      | (with_reducible exact freshetref11_Check.mono _ _ _ _ _)
      | (with_reducible exact freshetref11_Order.mono _ _)
      | (with_reducible exact freshetref11_row.mono _ _ _ _ _ _)
      | (with_reducible exact LeO.refl _)
      | (with_reducible exact LeO.none _)
      | (with_reducible refine LeO.ite ?_ ?_)
      | (with_reducible refine LeO.bind ?_ (fun _ => ?_))
      | exact ih0 _ _ _
      | exact ih1 _ _ _ _
      | exact ih2 _ _ _ _ _
      | exact freshetref11_Check.mono _ _ _ _ _
      | exact freshetref11_Order.mono _ _
      | exact freshetref11_row.mono _ _ _ _ _ _
      | exact LeO.none _
      | refine LeO.ite ?_ ?_
      | refine LeO.bind ?_ (fun _ => ?_)
set_option maxHeartbeats 8000000 in
set_option maxRecDepth 100000 in
theorem freshetref11_Build.calls (k : Nat) (A0 : Option Addr) (c0 : Nat) (l0 : List (S31)) (a1 : Int) (r1 : ByteArray) (r2 : Int) (w : World) (hr0 : Kd.C k31 w A0 l0.length l0) (hc0 : l0.length ≤ c0) (h : freshetref11_Build.f k l0 a1 = some (r1, r2)) :
    Calls Try.prog 13 #[.slice A0 l0.length c0, .int .i64 a1] w fun e w' => e = .returned (.tuple #[.string r1, .int .i64 r2]) ∧ Below w.heap.size w w' := by
  have hu31 := Try.underlying31
  have HR0 := Aside0.mk hr0
  have HC0 := Aside0.mk hc0
  clear hr0 hc0
  have HB := Aside0.mk (Below.refl w.heap.size w)
  have H : (if a1 < 1 then (freshetref11_Build.j0 k l0 a1 true) else (if a1 > 64 then (freshetref11_Build.j0 k l0 a1 true) else ((freshetref11_Order.f k l0).bind fun t191 => (freshetref11_Build.j0 k l0 a1 (!t191))))) = some (r1, r2) := h
  clear h
  have HC3 := Aside0.mk H
  clear H
  go_enter Try.func13, Try.ntmps13
  go_upto_region 1 with (fail)
  go_cut [23] (fun v23 wc => ∃ (kq : Nat) (x23_2 : Bool), v23 = .bool x23_2 ∧ Aside0 (freshetref11_Build.j0 kq l0 a1 x23_2 = some (r1, r2)) ∧ Aside0 (kq ≤ k) ∧ Aside0 (Below w.heap.size w wc))
  case first =>
    have H := HC3.out
    clear HC3
    by_cases c4 : a1 < 1
    · rw [if_pos c4] at H
      have c4b0 : decide (a1 < 1) = true := decide_eq_true c4
      clear c4
      (first | rw [c4b0] | (simp only [i64_w, i32_w]; rw [c4b0]) | skip)
      have H' := Aside0.mk H
      clear H
      go_wp2
      go_meet
      case rel => exact ⟨_, (true), (by first | rfl | (simp; done) | (simp [*]; done)), H', ⟨by first | omega | exact Nat.le_refl _⟩, ⟨by repeat (first | (with_reducible first | exact HB.out | apply below_alloc | apply pw_below_drewN | apply below_drew1) | exact HB.out)⟩⟩
    · rw [if_neg c4] at H
      have c4b0 : decide (a1 < 1) = false := decide_eq_false c4
      clear c4
      (first | rw [c4b0] | (simp only [i64_w, i32_w]; rw [c4b0]) | skip)
      by_cases c5 : a1 > 64
      · rw [if_pos c5] at H
        have c5b0 : decide (64 < a1) = true := decide_eq_true c5
        clear c5
        have H' := Aside0.mk H
        clear H
        go_wp2
        go_meet
        case rel => exact ⟨_, (true), (by first | rfl | (simp; done) | (simp [*]; done)), H', ⟨by first | omega | exact Nat.le_refl _⟩, ⟨by repeat (first | (with_reducible first | exact HB.out | apply below_alloc | apply pw_below_drewN | apply below_drew1) | exact HB.out)⟩⟩
      · rw [if_neg c5] at H
        have c5b0 : decide (64 < a1) = false := decide_eq_false c5
        clear c5
        replace H := Option.bind_eq_some_iff.mp H
        obtain ⟨t191, A60, H⟩ := H
        replace H : (freshetref11_Build.j0 k l0 a1 (!t191)) = some (r1, r2) := H
        have A6 := Aside0.mk A60
        clear A60
        have H' := Aside0.mk H
        clear H
        go_wp2_with (first | (go_at_call 17; (with_reducible refine (freshetref11_Order.calls k _ _ l0 t191 _ ?side1 ?side2 A6.out).mono ?_); (case side1 => repeat (first | exact (Kd.C_below HR0.out HB.out) | (with_reducible refine Kd.C_alloc ?_ _) | (with_reducible refine Kd.C_drewN ?_ _) | (with_reducible refine Kd.C_drew ?_))); (case side2 => exact HC0.out); rintro e w7 ⟨rfl, hb⟩; have n0_ := Aside0.mk (below_step (by repeat (first | (with_reducible first | exact HB.out | apply below_alloc | apply pw_below_drewN | apply below_drew1) | exact HB.out)) hb); clear HB; have HB := n0_; clear n0_; (try clear hb); (try clear hb2); (try clear hk); (try clear hi)))
        go_meet
        case rel => exact ⟨_, (!t191), (by first | rfl | (simp; done) | (simp [*]; done)), H', ⟨by first | omega | exact Nat.le_refl _⟩, ⟨by repeat (first | (with_reducible first | exact HB.out | apply below_alloc | apply pw_below_drewN | apply below_drew1) | exact HB.out)⟩⟩
  case rest =>
    clear HC3
    try clear c1
    try clear p2
    try clear c4
    try clear c4b0
    try clear c5
    try clear c5b0
    obtain ⟨kq, x23_2, rfl, HA, HJ2, HB⟩ := hcut
    cases kq with
    | zero => exact absurd HA.out (by simp [freshetref11_Build.j0])
    | succ kj2 =>
      have H := HA.out
      clear HA
      simp only [freshetref11_Build.j0] at H
      by_cases c8 : x23_2 = true
      · subst c8
        have H1 : (some ((⟨#[]⟩ : ByteArray), 2)) = some (r1, r2) := by rw [if_pos rfl] at H; exact H
        clear H
        have H := H1
        clear H1
        simp only [Option.some.injEq, Prod.mk.injEq] at H
        obtain ⟨rfl, rfl⟩ := H
        go_wp2
        go_ret2
        exact ⟨by first | rfl | (simp [errW_none, errW_some] <;> rfl) | (simp [*, errW_none, errW_some] <;> rfl), by repeat (first | (with_reducible first | exact HB.out | apply below_alloc | apply pw_below_drewN | apply below_drew1) | exact HB.out)⟩
      · replace c8 := Bool.eq_false_iff.mpr c8
        subst c8
        have H1 : (freshetref11_Build.l0 kj2 l0 a1 (decide ((l0.length : Int) > 1024)) 0) = some (r1, r2) := by rw [if_neg (show ¬ (false = true) by decide)] at H; exact H
        clear H
        have H := H1
        clear H1
        have H' := Aside0.mk H
        clear H
        go_wp2
        go_loopg [6, 7] kj2 (fun kq v6 v7 w' => ∃ (x6_2 : Bool) (x7_2 : Int), v6 = .bool x6_2 ∧ v7 = .int .i64 x7_2 ∧ Aside0 (freshetref11_Build.l0 kq l0 a1 x6_2 x7_2 = some (r1, r2)) ∧ Aside0 (kq ≤ kj2) ∧ Aside0 (Below w.heap.size w w'))
        case atStart => exact ⟨(decide ((l0.length : Int) > 1024)), (0), (by first | rfl | (simp; done) | (simp [*]; done)), (by first | rfl | (simp; done) | (simp [*]; done)), H', ⟨Nat.le_refl _⟩, ⟨by repeat (first | (with_reducible first | exact HB.out | apply below_alloc | apply pw_below_drewN | apply below_drew1) | exact HB.out)⟩⟩
        case round =>
          clear H'
          try clear c1
          try clear p2
          try clear c4
          try clear c4b0
          try clear c5
          try clear c5b0
          try clear c8
          try clear p2
          obtain ⟨x6_2, x7_2, rfl, rfl, HA, HK2, HB⟩ := hrel
          cases gk with
          | zero => exact absurd HA.out (by simp [freshetref11_Build.l0])
          | succ k2 =>
            have H := HA.out
            clear HA
            simp only [freshetref11_Build.l0] at H
            by_cases c9 : x7_2 < (l0.length : Int)
            · rw [if_pos c9] at H
              have c9b0 : decide (x7_2 < (l0.length : Int)) = true := decide_eq_true c9
              clear c9
              by_cases c10 : 0 ≤ x7_2
              · rw [if_pos c10] at H
                have c10b0 : decide (0 ≤ x7_2) = true := decide_eq_true c10
                clear c10
                replace H := Option.bind_eq_some_iff.mp H
                obtain ⟨t193, A110, H⟩ := H
                replace H : (if t193 = 2 then (some ((⟨#[]⟩ : ByteArray), t193)) else (if x6_2 = true then (freshetref11_Build.l0 k2 l0 a1 true (wrap64 (x7_2 + 1))) else (freshetref11_Build.l0 k2 l0 a1 (t193 == 3) (wrap64 (x7_2 + 1))))) = some (r1, r2) := H
                have A11 := Aside0.mk A110
                clear A110
                by_cases c12 : t193 = 2
                · rw [if_pos c12] at H
                  have c12b0 : (t193 == 2) = true := beq_iff_eq.mpr c12
                  have c12b1 : (t193 != 2) = false := bne_eq_false_iff_eq.mpr c12
                  clear c12
                  simp only [Option.some.injEq, Prod.mk.injEq] at H
                  obtain ⟨rfl, rfl⟩ := H
                  have p192 : 0 ≤ (x7_2 : Int) := of_decide_eq_true (by first | (with_reducible assumption) | assumption)
                  have q192 : x7_2 < (l0.length : Int) := of_decide_eq_true (by first | (with_reducible assumption) | assumption)
                  obtain ⟨ad192, e192, hx192_0, hx192_1, hx192_2, hx192_3⟩ := at_T31 HR0.out x7_2 p192 q192
                  cases e192
                  replace hx192_0 := (HB.out.cell (World.block_lt_of_cell? w _ hx192_0)).trans hx192_0
                  replace hx192_1 := (HB.out.cell (World.block_lt_of_cell? w _ hx192_1)).trans hx192_1
                  replace hx192_2 := (HB.out.cell (World.block_lt_of_cell? w _ hx192_2)).trans hx192_2
                  replace hx192_3 := (HB.out.cell (World.block_lt_of_cell? w _ hx192_3)).trans hx192_3
                  replace p192 := eq_true p192
                  replace q192 := eq_true q192
                  go_wp2_with (first | ((with_reducible refine gate_callee (f := 15) rfl ?_); refine goesL_ (some 37) rfl rfl Try.func15 (by kernel_rfl) rfl #[.agg #[.string ((rd_T31 l0 x7_2).f0), .int .u64 ((rd_T31 l0 x7_2).f1), .int .i64 ((rd_T31 l0 x7_2).f2), .string ((rd_T31 l0 x7_2).f3)]] rfl (by (try simp only [List.map_toArray, List.map_cons, List.map_nil]); first | done | rfl | (simp only [List.length_drop, List.length_take]; rfl)) ?_; (with_reducible refine (freshetref11_Check.calls k2 ((rd_T31 l0 x7_2).f0) ((rd_T31 l0 x7_2).f1) ((rd_T31 l0 x7_2).f2) ((rd_T31 l0 x7_2).f3) t193 _ A11.out).mono ?_); rintro e w13 ⟨rfl, hb⟩; refine ⟨_, rfl, ?_⟩; have n0_ := Aside0.mk (below_step (by repeat (first | (with_reducible first | exact HB.out | apply below_alloc | apply pw_below_drewN | apply below_drew1) | exact HB.out)) hb); clear HB; have HB := n0_; clear n0_; (try clear hb); (try clear hb2); (try clear hk); (try clear hi)))
                  go_ret2
                  exact ⟨by first | rfl | (simp [errW_none, errW_some] <;> rfl) | (simp [*, errW_none, errW_some] <;> rfl), by repeat (first | (with_reducible first | exact HB.out | apply below_alloc | apply pw_below_drewN | apply below_drew1) | exact HB.out)⟩
                · rw [if_neg c12] at H
                  have c12b0 : (t193 == 2) = false := beq_eq_false_iff_ne.mpr c12
                  have c12b1 : (t193 != 2) = true := bne_iff_ne.mpr c12
                  by_cases c14 : x6_2 = true
                  · subst c14
                    have H1 : (freshetref11_Build.l0 k2 l0 a1 true (wrap64 (x7_2 + 1))) = some (r1, r2) := by rw [if_pos rfl] at H; exact H
                    clear H
                    have H := H1
                    clear H1
                    have H' := Aside0.mk H
                    clear H
                    have p192 : 0 ≤ (x7_2 : Int) := of_decide_eq_true (by first | (with_reducible assumption) | assumption)
                    have q192 : x7_2 < (l0.length : Int) := of_decide_eq_true (by first | (with_reducible assumption) | assumption)
                    obtain ⟨ad192, e192, hx192_0, hx192_1, hx192_2, hx192_3⟩ := at_T31 HR0.out x7_2 p192 q192
                    cases e192
                    replace hx192_0 := (HB.out.cell (World.block_lt_of_cell? w _ hx192_0)).trans hx192_0
                    replace hx192_1 := (HB.out.cell (World.block_lt_of_cell? w _ hx192_1)).trans hx192_1
                    replace hx192_2 := (HB.out.cell (World.block_lt_of_cell? w _ hx192_2)).trans hx192_2
                    replace hx192_3 := (HB.out.cell (World.block_lt_of_cell? w _ hx192_3)).trans hx192_3
                    replace p192 := eq_true p192
                    replace q192 := eq_true q192
                    go_wp2_with (first | ((with_reducible refine gate_callee (f := 15) rfl ?_); refine goesL_ (some 37) rfl rfl Try.func15 (by kernel_rfl) rfl #[.agg #[.string ((rd_T31 l0 x7_2).f0), .int .u64 ((rd_T31 l0 x7_2).f1), .int .i64 ((rd_T31 l0 x7_2).f2), .string ((rd_T31 l0 x7_2).f3)]] rfl (by (try simp only [List.map_toArray, List.map_cons, List.map_nil]); first | done | rfl | (simp only [List.length_drop, List.length_take]; rfl)) ?_; (with_reducible refine (freshetref11_Check.calls k2 ((rd_T31 l0 x7_2).f0) ((rd_T31 l0 x7_2).f1) ((rd_T31 l0 x7_2).f2) ((rd_T31 l0 x7_2).f3) t193 _ A11.out).mono ?_); rintro e w15 ⟨rfl, hb⟩; refine ⟨_, rfl, ?_⟩; have n0_ := Aside0.mk (below_step (by repeat (first | (with_reducible first | exact HB.out | apply below_alloc | apply pw_below_drewN | apply below_drew1) | exact HB.out)) hb); clear HB; have HB := n0_; clear n0_; (try clear hb); (try clear hb2); (try clear hk); (try clear hi)))
                    go_roundg k2
                    case measure => have := HJ2.out; have := HK2.out; omega
                    case rel => exact ⟨(true), (wrap64 (x7_2 + 1)), (by first | rfl | (simp; done) | (simp [*]; done)), (by first | rfl | (simp; done) | (simp [*]; done)), H', ⟨by have := HJ2.out; have := HK2.out; omega⟩, ⟨by repeat (first | (with_reducible first | exact HB.out | apply below_alloc | apply pw_below_drewN | apply below_drew1) | exact HB.out)⟩⟩
                  · replace c14 := Bool.eq_false_iff.mpr c14
                    subst c14
                    have H1 : (freshetref11_Build.l0 k2 l0 a1 (t193 == 3) (wrap64 (x7_2 + 1))) = some (r1, r2) := by rw [if_neg (show ¬ (false = true) by decide)] at H; exact H
                    clear H
                    have H := H1
                    clear H1
                    have H' := Aside0.mk H
                    clear H
                    have p192 : 0 ≤ (x7_2 : Int) := of_decide_eq_true (by first | (with_reducible assumption) | assumption)
                    have q192 : x7_2 < (l0.length : Int) := of_decide_eq_true (by first | (with_reducible assumption) | assumption)
                    obtain ⟨ad192, e192, hx192_0, hx192_1, hx192_2, hx192_3⟩ := at_T31 HR0.out x7_2 p192 q192
                    cases e192
                    replace hx192_0 := (HB.out.cell (World.block_lt_of_cell? w _ hx192_0)).trans hx192_0
                    replace hx192_1 := (HB.out.cell (World.block_lt_of_cell? w _ hx192_1)).trans hx192_1
                    replace hx192_2 := (HB.out.cell (World.block_lt_of_cell? w _ hx192_2)).trans hx192_2
                    replace hx192_3 := (HB.out.cell (World.block_lt_of_cell? w _ hx192_3)).trans hx192_3
                    replace p192 := eq_true p192
                    replace q192 := eq_true q192
                    go_wp2_with (first | ((with_reducible refine gate_callee (f := 15) rfl ?_); refine goesL_ (some 37) rfl rfl Try.func15 (by kernel_rfl) rfl #[.agg #[.string ((rd_T31 l0 x7_2).f0), .int .u64 ((rd_T31 l0 x7_2).f1), .int .i64 ((rd_T31 l0 x7_2).f2), .string ((rd_T31 l0 x7_2).f3)]] rfl (by (try simp only [List.map_toArray, List.map_cons, List.map_nil]); first | done | rfl | (simp only [List.length_drop, List.length_take]; rfl)) ?_; (with_reducible refine (freshetref11_Check.calls k2 ((rd_T31 l0 x7_2).f0) ((rd_T31 l0 x7_2).f1) ((rd_T31 l0 x7_2).f2) ((rd_T31 l0 x7_2).f3) t193 _ A11.out).mono ?_); rintro e w16 ⟨rfl, hb⟩; refine ⟨_, rfl, ?_⟩; have n0_ := Aside0.mk (below_step (by repeat (first | (with_reducible first | exact HB.out | apply below_alloc | apply pw_below_drewN | apply below_drew1) | exact HB.out)) hb); clear HB; have HB := n0_; clear n0_; (try clear hb); (try clear hb2); (try clear hk); (try clear hi)))
                    go_roundg k2
                    case measure => have := HJ2.out; have := HK2.out; omega
                    case rel => exact ⟨((t193 == 3)), (wrap64 (x7_2 + 1)), (by first | rfl | (simp; done) | (simp [*]; done)), (by first | rfl | (simp; done) | (simp [*]; done)), H', ⟨by have := HJ2.out; have := HK2.out; omega⟩, ⟨by repeat (first | (with_reducible first | exact HB.out | apply below_alloc | apply pw_below_drewN | apply below_drew1) | exact HB.out)⟩⟩
              · rw [if_neg c10] at H
                exact absurd H (by simp)
            · rw [if_neg c9] at H
              have c9b0 : decide (x7_2 < (l0.length : Int)) = false := decide_eq_false c9
              clear c9
              by_cases c17 : x6_2 = true
              · subst c17
                have H1 : (some ((⟨#[]⟩ : ByteArray), 3)) = some (r1, r2) := by rw [if_pos rfl] at H; exact H
                clear H
                have H := H1
                clear H1
                simp only [Option.some.injEq, Prod.mk.injEq] at H
                obtain ⟨rfl, rfl⟩ := H
                go_wp2
                go_ret2
                exact ⟨by first | rfl | (simp [errW_none, errW_some] <;> rfl) | (simp [*, errW_none, errW_some] <;> rfl), by repeat (first | (with_reducible first | exact HB.out | apply below_alloc | apply pw_below_drewN | apply below_drew1) | exact HB.out)⟩
              · replace c17 := Bool.eq_false_iff.mpr c17
                subst c17
                have H1 : (freshetref11_Build.l1 k2 l0 a1 (⟨#[]⟩ : ByteArray) (⟨#[]⟩ : ByteArray) 0) = some (r1, r2) := by rw [if_neg (show ¬ (false = true) by decide)] at H; exact H
                clear H
                have H := H1
                clear H1
                have H' := Aside0.mk H
                clear H
                go_wp2
                go_loopg [9, 10, 11] k2 (fun kq v9 v10 v11 w' => ∃ (x9_3 : ByteArray) (x10_3 : ByteArray) (x11_3 : Int), v9 = .string x9_3 ∧ v10 = .string x10_3 ∧ v11 = .int .i64 x11_3 ∧ Aside0 (freshetref11_Build.l1 kq l0 a1 x9_3 x10_3 x11_3 = some (r1, r2)) ∧ Aside0 (kq ≤ k2) ∧ Aside0 (Below w.heap.size w w'))
                case atStart => exact ⟨((⟨#[]⟩ : ByteArray)), ((⟨#[]⟩ : ByteArray)), (0), (by first | rfl | (simp; done) | (simp [*]; done)), (by first | rfl | (simp; done) | (simp [*]; done)), (by first | rfl | (simp; done) | (simp [*]; done)), H', ⟨Nat.le_refl _⟩, ⟨by repeat (first | (with_reducible first | exact HB.out | apply below_alloc | apply pw_below_drewN | apply below_drew1) | exact HB.out)⟩⟩
                case round =>
                  clear H'
                  try clear c1
                  try clear p1
                  try clear q1
                  try clear hx1
                  try clear p2
                  try clear c4
                  try clear c4b0
                  try clear c5
                  try clear c5b0
                  try clear p6
                  try clear c8
                  try clear c9
                  try clear c9b0
                  try clear c10
                  try clear c10b0
                  try clear c12
                  try clear c12b0
                  try clear c12b1
                  try clear c13
                  try clear c14
                  try clear c15
                  try clear c17
                  try clear hx192_0
                  try clear hx192_1
                  try clear hx192_2
                  try clear hx192_3
                  try clear p192
                  try clear p2
                  try clear q192
                  obtain ⟨x9_3, x10_3, x11_3, rfl, rfl, rfl, HA, HK3, HB⟩ := hrel
                  cases gk with
                  | zero => exact absurd HA.out (by simp [freshetref11_Build.l1])
                  | succ k3 =>
                    have H := HA.out
                    clear HA
                    simp only [freshetref11_Build.l1] at H
                    by_cases c18 : x11_3 < (l0.length : Int)
                    · rw [if_pos c18] at H
                      have c18b0 : decide (x11_3 < (l0.length : Int)) = true := decide_eq_true c18
                      clear c18
                      by_cases c19 : a1 = 0
                      · rw [if_pos c19] at H
                        exact absurd H (by simp)
                      · rw [if_neg c19] at H
                        have c19b0 : (a1 == 0) = false := beq_eq_false_iff_ne.mpr c19
                        have c19b1 : (a1 != 0) = true := bne_iff_ne.mpr c19
                        by_cases c20 : (Int.tmod x11_3 a1) = 0
                        · rw [if_pos c20] at H
                          have c20b0 : ((Int.tmod x11_3 a1) == 0) = true := beq_iff_eq.mpr c20
                          have c20b1 : ((Int.tmod x11_3 a1) != 0) = false := bne_eq_false_iff_eq.mpr c20
                          clear c20
                          replace H := Option.bind_eq_some_iff.mp H
                          obtain ⟨t194, A210, H⟩ := H
                          replace H : (if x10_3.size + t194.size ≤ 9223372036854775807 then (if 0 ≤ x11_3 then ((freshetref11_row.f k3 ((rd_T31 l0 x11_3).f0) ((rd_T31 l0 x11_3).f1) ((rd_T31 l0 x11_3).f2) ((rd_T31 l0 x11_3).f3) (⟨#[]⟩ : ByteArray)).bind fun t196 => (if x9_3.size + t196.size ≤ 9223372036854775807 then (if ((x9_3 ++ t196).size : Int) > 65536 then (some ((⟨#[]⟩ : ByteArray), 3)) else (freshetref11_Build.l1 k3 l0 a1 (x9_3 ++ t196) (x10_3 ++ t194) (wrap64 (x11_3 + 1)))) else (none))) else (none)) else (none)) = some (r1, r2) := H
                          have A21 := Aside0.mk A210
                          clear A210
                          by_cases c22 : x10_3.size + t194.size ≤ 9223372036854775807
                          · rw [if_pos c22] at H
                            have c22b0 := eq_true c22
                            have c22b1 : decide (x10_3.size + t194.size ≤ 9223372036854775807) = true := decide_eq_true c22
                            try have c22b2 : (9223372036854775807 < x10_3.size + t194.size) = False := eq_false (Nat.not_lt.2 c22)
                            by_cases c23 : 0 ≤ x11_3
                            · rw [if_pos c23] at H
                              have c23b0 : decide (0 ≤ x11_3) = true := decide_eq_true c23
                              clear c23
                              replace H := Option.bind_eq_some_iff.mp H
                              obtain ⟨t196, A240, H⟩ := H
                              replace H : (if x9_3.size + t196.size ≤ 9223372036854775807 then (if ((x9_3 ++ t196).size : Int) > 65536 then (some ((⟨#[]⟩ : ByteArray), 3)) else (freshetref11_Build.l1 k3 l0 a1 (x9_3 ++ t196) (x10_3 ++ t194) (wrap64 (x11_3 + 1)))) else (none)) = some (r1, r2) := H
                              have A24 := Aside0.mk A240
                              clear A240
                              by_cases c25 : x9_3.size + t196.size ≤ 9223372036854775807
                              · rw [if_pos c25] at H
                                have c25b0 := eq_true c25
                                have c25b1 : decide (x9_3.size + t196.size ≤ 9223372036854775807) = true := decide_eq_true c25
                                try have c25b2 : (9223372036854775807 < x9_3.size + t196.size) = False := eq_false (Nat.not_lt.2 c25)
                                by_cases c26 : ((x9_3 ++ t196).size : Int) > 65536
                                · rw [if_pos c26] at H
                                  have c26b0 : decide (65536 < ((x9_3 ++ t196).size : Int)) = true := decide_eq_true c26
                                  try have c26b0m := c26b0
                                  try simp only [ByteArray.size_append, Int.natCast_add] at c26b0m
                                  have c26b1 : decide (65536 < (x9_3 ++ t196).size) = true := decide_eq_true (by omega)
                                  try have c26b1m := c26b1
                                  try simp only [ByteArray.size_append, Int.natCast_add] at c26b1m
                                  clear c26
                                  simp only [Option.some.injEq, Prod.mk.injEq] at H
                                  obtain ⟨rfl, rfl⟩ := H
                                  go_wp2_with (first | ((with_reducible refine gate_callee (f := 26) rfl ?_); refine goesL_ (some 60) rfl rfl Try.func26 (by kernel_rfl) rfl #[.int .i64 (x9_3.size : Int)] rfl (by (try simp only [List.map_toArray, List.map_cons, List.map_nil]); first | done | rfl | (simp only [List.length_drop, List.length_take]; rfl)) ?_; (with_reducible refine (freshetref11_four.calls (x9_3.size : Int) t194 _ A21.out).mono ?_); rintro e w27 ⟨rfl, hb⟩; refine ⟨_, rfl, ?_⟩; have n0_ := Aside0.mk (below_step (by repeat (first | (with_reducible first | exact HB.out | apply below_alloc | apply pw_below_drewN | apply below_drew1) | exact HB.out)) hb); clear HB; have HB := n0_; clear n0_; (try clear hb); (try clear hb2); (try clear hk); (try clear hi); have p195 : 0 ≤ (x11_3 : Int) := of_decide_eq_true (by first | (with_reducible assumption) | assumption); have q195 : x11_3 < (l0.length : Int) := of_decide_eq_true (by first | (with_reducible assumption) | assumption); obtain ⟨ad195, e195, hx195_0, hx195_1, hx195_2, hx195_3⟩ := at_T31 HR0.out x11_3 p195 q195; cases e195; replace hx195_0 := (HB.out.cell (World.block_lt_of_cell? w _ hx195_0)).trans hx195_0; replace hx195_1 := (HB.out.cell (World.block_lt_of_cell? w _ hx195_1)).trans hx195_1; replace hx195_2 := (HB.out.cell (World.block_lt_of_cell? w _ hx195_2)).trans hx195_2; replace hx195_3 := (HB.out.cell (World.block_lt_of_cell? w _ hx195_3)).trans hx195_3; replace p195 := eq_true p195; replace q195 := eq_true q195) | ((with_reducible refine gate_callee (f := 27) rfl ?_); refine goesL_ (some 74) rfl rfl Try.func27 (by kernel_rfl) rfl #[.agg #[.string ((rd_T31 l0 x11_3).f0), .int .u64 ((rd_T31 l0 x11_3).f1), .int .i64 ((rd_T31 l0 x11_3).f2), .string ((rd_T31 l0 x11_3).f3)], .string (⟨#[]⟩ : ByteArray)] rfl (by (try simp only [List.map_toArray, List.map_cons, List.map_nil]); first | done | rfl | (simp only [List.length_drop, List.length_take]; rfl)) ?_; (with_reducible refine (freshetref11_row.calls k3 ((rd_T31 l0 x11_3).f0) ((rd_T31 l0 x11_3).f1) ((rd_T31 l0 x11_3).f2) ((rd_T31 l0 x11_3).f3) (⟨#[]⟩ : ByteArray) t196 _ A24.out).mono ?_); rintro e w28 ⟨rfl, hb⟩; refine ⟨_, rfl, ?_⟩; have n0_ := Aside0.mk (below_step (by repeat (first | (with_reducible first | exact HB.out | apply below_alloc | apply pw_below_drewN | apply below_drew1) | exact HB.out)) hb); clear HB; have HB := n0_; clear n0_; (try clear hb); (try clear hb2); (try clear hk); (try clear hi)))
                                  go_ret2
                                  exact ⟨by first | rfl | (simp [errW_none, errW_some] <;> rfl) | (simp [*, errW_none, errW_some] <;> rfl), by repeat (first | (with_reducible first | exact HB.out | apply below_alloc | apply pw_below_drewN | apply below_drew1) | exact HB.out)⟩
                                · rw [if_neg c26] at H
                                  have c26b0 : decide (65536 < ((x9_3 ++ t196).size : Int)) = false := decide_eq_false c26
                                  try have c26b0m := c26b0
                                  try simp only [ByteArray.size_append, Int.natCast_add] at c26b0m
                                  have c26b1 : decide (65536 < (x9_3 ++ t196).size) = false := decide_eq_false (by omega)
                                  try have c26b1m := c26b1
                                  try simp only [ByteArray.size_append, Int.natCast_add] at c26b1m
                                  clear c26
                                  have H' := Aside0.mk H
                                  clear H
                                  go_wp2_with (first | ((with_reducible refine gate_callee (f := 26) rfl ?_); refine goesL_ (some 60) rfl rfl Try.func26 (by kernel_rfl) rfl #[.int .i64 (x9_3.size : Int)] rfl (by (try simp only [List.map_toArray, List.map_cons, List.map_nil]); first | done | rfl | (simp only [List.length_drop, List.length_take]; rfl)) ?_; (with_reducible refine (freshetref11_four.calls (x9_3.size : Int) t194 _ A21.out).mono ?_); rintro e w29 ⟨rfl, hb⟩; refine ⟨_, rfl, ?_⟩; have n0_ := Aside0.mk (below_step (by repeat (first | (with_reducible first | exact HB.out | apply below_alloc | apply pw_below_drewN | apply below_drew1) | exact HB.out)) hb); clear HB; have HB := n0_; clear n0_; (try clear hb); (try clear hb2); (try clear hk); (try clear hi); have p195 : 0 ≤ (x11_3 : Int) := of_decide_eq_true (by first | (with_reducible assumption) | assumption); have q195 : x11_3 < (l0.length : Int) := of_decide_eq_true (by first | (with_reducible assumption) | assumption); obtain ⟨ad195, e195, hx195_0, hx195_1, hx195_2, hx195_3⟩ := at_T31 HR0.out x11_3 p195 q195; cases e195; replace hx195_0 := (HB.out.cell (World.block_lt_of_cell? w _ hx195_0)).trans hx195_0; replace hx195_1 := (HB.out.cell (World.block_lt_of_cell? w _ hx195_1)).trans hx195_1; replace hx195_2 := (HB.out.cell (World.block_lt_of_cell? w _ hx195_2)).trans hx195_2; replace hx195_3 := (HB.out.cell (World.block_lt_of_cell? w _ hx195_3)).trans hx195_3; replace p195 := eq_true p195; replace q195 := eq_true q195) | ((with_reducible refine gate_callee (f := 27) rfl ?_); refine goesL_ (some 74) rfl rfl Try.func27 (by kernel_rfl) rfl #[.agg #[.string ((rd_T31 l0 x11_3).f0), .int .u64 ((rd_T31 l0 x11_3).f1), .int .i64 ((rd_T31 l0 x11_3).f2), .string ((rd_T31 l0 x11_3).f3)], .string (⟨#[]⟩ : ByteArray)] rfl (by (try simp only [List.map_toArray, List.map_cons, List.map_nil]); first | done | rfl | (simp only [List.length_drop, List.length_take]; rfl)) ?_; (with_reducible refine (freshetref11_row.calls k3 ((rd_T31 l0 x11_3).f0) ((rd_T31 l0 x11_3).f1) ((rd_T31 l0 x11_3).f2) ((rd_T31 l0 x11_3).f3) (⟨#[]⟩ : ByteArray) t196 _ A24.out).mono ?_); rintro e w30 ⟨rfl, hb⟩; refine ⟨_, rfl, ?_⟩; have n0_ := Aside0.mk (below_step (by repeat (first | (with_reducible first | exact HB.out | apply below_alloc | apply pw_below_drewN | apply below_drew1) | exact HB.out)) hb); clear HB; have HB := n0_; clear n0_; (try clear hb); (try clear hb2); (try clear hk); (try clear hi)))
                                  go_roundg k3
                                  case measure => have := HJ2.out; have := HK2.out; have := HK3.out; omega
                                  case rel => exact ⟨(x9_3 ++ t196), (x10_3 ++ t194), (wrap64 (x11_3 + 1)), (by first | rfl | (simp; done) | (simp [*]; done)), (by first | rfl | (simp; done) | (simp [*]; done)), (by first | rfl | (simp; done) | (simp [*]; done)), H', ⟨by have := HJ2.out; have := HK2.out; have := HK3.out; omega⟩, ⟨by repeat (first | (with_reducible first | exact HB.out | apply below_alloc | apply pw_below_drewN | apply below_drew1) | exact HB.out)⟩⟩
                              · rw [if_neg c25] at H
                                exact absurd H (by simp)
                            · rw [if_neg c23] at H
                              exact absurd H (by simp)
                          · rw [if_neg c22] at H
                            exact absurd H (by simp)
                        · rw [if_neg c20] at H
                          have c20b0 : ((Int.tmod x11_3 a1) == 0) = false := beq_eq_false_iff_ne.mpr c20
                          have c20b1 : ((Int.tmod x11_3 a1) != 0) = true := bne_iff_ne.mpr c20
                          obtain ⟨ji31, hji31⟩ : ∃ j_ : Int, (wrap64 (x11_3 - 1)) = j_ := ⟨_, rfl⟩
                          replace H : (if 0 ≤ (ji31) then (if (ji31) < (l0.length : Int) then (if 0 ≤ x11_3 then ((freshetref11_row.f k3 ((rd_T31 l0 x11_3).f0) ((rd_T31 l0 x11_3).f1) ((rd_T31 l0 x11_3).f2) ((rd_T31 l0 x11_3).f3) ((rd_T31 l0 (ji31)).f0)).bind fun t199 => (if x9_3.size + t199.size ≤ 9223372036854775807 then (if ((x9_3 ++ t199).size : Int) > 65536 then (some ((⟨#[]⟩ : ByteArray), 3)) else (freshetref11_Build.l1 k3 l0 a1 (x9_3 ++ t199) x10_3 (wrap64 (x11_3 + 1)))) else (none))) else (none)) else (none)) else (none)) = some (r1, r2) := by first | (rw [hji31] at H; exact H) | (simp only [hji31] at H ⊢; exact H)
                          have hji31w : (IntKind.i64.wrap (x11_3 - 1)) = ji31 := (i64_w _).trans hji31
                          by_cases c32 : 0 ≤ (ji31)
                          · rw [if_pos c32] at H
                            have c32b0 : decide (0 ≤ (ji31)) = true := decide_eq_true c32
                            clear c32
                            by_cases c33 : (ji31) < (l0.length : Int)
                            · rw [if_pos c33] at H
                              have c33b0 : decide ((ji31) < (l0.length : Int)) = true := decide_eq_true c33
                              clear c33
                              by_cases c34 : 0 ≤ x11_3
                              · rw [if_pos c34] at H
                                have c34b0 : decide (0 ≤ x11_3) = true := decide_eq_true c34
                                clear c34
                                replace H := Option.bind_eq_some_iff.mp H
                                obtain ⟨t199, A350, H⟩ := H
                                replace H : (if x9_3.size + t199.size ≤ 9223372036854775807 then (if ((x9_3 ++ t199).size : Int) > 65536 then (some ((⟨#[]⟩ : ByteArray), 3)) else (freshetref11_Build.l1 k3 l0 a1 (x9_3 ++ t199) x10_3 (wrap64 (x11_3 + 1)))) else (none)) = some (r1, r2) := H
                                have A35 := Aside0.mk A350
                                clear A350
                                by_cases c36 : x9_3.size + t199.size ≤ 9223372036854775807
                                · rw [if_pos c36] at H
                                  have c36b0 := eq_true c36
                                  have c36b1 : decide (x9_3.size + t199.size ≤ 9223372036854775807) = true := decide_eq_true c36
                                  try have c36b2 : (9223372036854775807 < x9_3.size + t199.size) = False := eq_false (Nat.not_lt.2 c36)
                                  by_cases c37 : ((x9_3 ++ t199).size : Int) > 65536
                                  · rw [if_pos c37] at H
                                    have c37b0 : decide (65536 < ((x9_3 ++ t199).size : Int)) = true := decide_eq_true c37
                                    try have c37b0m := c37b0
                                    try simp only [ByteArray.size_append, Int.natCast_add] at c37b0m
                                    have c37b1 : decide (65536 < (x9_3 ++ t199).size) = true := decide_eq_true (by omega)
                                    try have c37b1m := c37b1
                                    try simp only [ByteArray.size_append, Int.natCast_add] at c37b1m
                                    clear c37
                                    simp only [Option.some.injEq, Prod.mk.injEq] at H
                                    obtain ⟨rfl, rfl⟩ := H
                                    have p197 : 0 ≤ ((ji31) : Int) := of_decide_eq_true (by first | (with_reducible assumption) | assumption)
                                    have q197 : (ji31) < (l0.length : Int) := of_decide_eq_true (by first | (with_reducible assumption) | assumption)
                                    obtain ⟨ad197, e197, hx197_0, hx197_1, hx197_2, hx197_3⟩ := at_T31 HR0.out (ji31) p197 q197
                                    cases e197
                                    replace hx197_0 := (HB.out.cell (World.block_lt_of_cell? w _ hx197_0)).trans hx197_0
                                    replace hx197_1 := (HB.out.cell (World.block_lt_of_cell? w _ hx197_1)).trans hx197_1
                                    replace hx197_2 := (HB.out.cell (World.block_lt_of_cell? w _ hx197_2)).trans hx197_2
                                    replace hx197_3 := (HB.out.cell (World.block_lt_of_cell? w _ hx197_3)).trans hx197_3
                                    replace p197 := eq_true p197
                                    replace q197 := eq_true q197
                                    have p198 : 0 ≤ (x11_3 : Int) := of_decide_eq_true (by first | (with_reducible assumption) | assumption)
                                    have q198 : x11_3 < (l0.length : Int) := of_decide_eq_true (by first | (with_reducible assumption) | assumption)
                                    obtain ⟨ad198, e198, hx198_0, hx198_1, hx198_2, hx198_3⟩ := at_T31 HR0.out x11_3 p198 q198
                                    obtain rfl : ad197 = ad198 := (by injection e198)
                                    replace hx198_0 := (HB.out.cell (World.block_lt_of_cell? w _ hx198_0)).trans hx198_0
                                    replace hx198_1 := (HB.out.cell (World.block_lt_of_cell? w _ hx198_1)).trans hx198_1
                                    replace hx198_2 := (HB.out.cell (World.block_lt_of_cell? w _ hx198_2)).trans hx198_2
                                    replace hx198_3 := (HB.out.cell (World.block_lt_of_cell? w _ hx198_3)).trans hx198_3
                                    replace p198 := eq_true p198
                                    replace q198 := eq_true q198
                                    go_wp2_with (first | ((with_reducible refine gate_callee (f := 27) rfl ?_); refine goesL_ (some 74) rfl rfl Try.func27 (by kernel_rfl) rfl #[.agg #[.string ((rd_T31 l0 x11_3).f0), .int .u64 ((rd_T31 l0 x11_3).f1), .int .i64 ((rd_T31 l0 x11_3).f2), .string ((rd_T31 l0 x11_3).f3)], .string ((rd_T31 l0 (ji31)).f0)] rfl (by (try simp only [List.map_toArray, List.map_cons, List.map_nil]); first | done | (simp only [hji31]; rfl) | rfl | (simp only [List.length_drop, List.length_take]; rfl)) ?_; (with_reducible refine (freshetref11_row.calls k3 ((rd_T31 l0 x11_3).f0) ((rd_T31 l0 x11_3).f1) ((rd_T31 l0 x11_3).f2) ((rd_T31 l0 x11_3).f3) ((rd_T31 l0 (ji31)).f0) t199 _ A35.out).mono ?_); rintro e w38 ⟨rfl, hb⟩; refine ⟨_, rfl, ?_⟩; have n0_ := Aside0.mk (below_step (by repeat (first | (with_reducible first | exact HB.out | apply below_alloc | apply pw_below_drewN | apply below_drew1) | exact HB.out)) hb); clear HB; have HB := n0_; clear n0_; (try clear hb); (try clear hb2); (try clear hk); (try clear hi)))
                                    go_ret2
                                    exact ⟨by first | rfl | (simp [errW_none, errW_some] <;> rfl) | (simp only [← hji31]; first | rfl | (simp [errW_none, errW_some] <;> rfl)) | (simp [*, errW_none, errW_some] <;> rfl), by repeat (first | (with_reducible first | exact HB.out | apply below_alloc | apply pw_below_drewN | apply below_drew1) | exact HB.out)⟩
                                  · rw [if_neg c37] at H
                                    have c37b0 : decide (65536 < ((x9_3 ++ t199).size : Int)) = false := decide_eq_false c37
                                    try have c37b0m := c37b0
                                    try simp only [ByteArray.size_append, Int.natCast_add] at c37b0m
                                    have c37b1 : decide (65536 < (x9_3 ++ t199).size) = false := decide_eq_false (by omega)
                                    try have c37b1m := c37b1
                                    try simp only [ByteArray.size_append, Int.natCast_add] at c37b1m
                                    clear c37
                                    have H' := Aside0.mk H
                                    clear H
                                    have p197 : 0 ≤ ((ji31) : Int) := of_decide_eq_true (by first | (with_reducible assumption) | assumption)
                                    have q197 : (ji31) < (l0.length : Int) := of_decide_eq_true (by first | (with_reducible assumption) | assumption)
                                    obtain ⟨ad197, e197, hx197_0, hx197_1, hx197_2, hx197_3⟩ := at_T31 HR0.out (ji31) p197 q197
                                    cases e197
                                    replace hx197_0 := (HB.out.cell (World.block_lt_of_cell? w _ hx197_0)).trans hx197_0
                                    replace hx197_1 := (HB.out.cell (World.block_lt_of_cell? w _ hx197_1)).trans hx197_1
                                    replace hx197_2 := (HB.out.cell (World.block_lt_of_cell? w _ hx197_2)).trans hx197_2
                                    replace hx197_3 := (HB.out.cell (World.block_lt_of_cell? w _ hx197_3)).trans hx197_3
                                    replace p197 := eq_true p197
                                    replace q197 := eq_true q197
                                    have p198 : 0 ≤ (x11_3 : Int) := of_decide_eq_true (by first | (with_reducible assumption) | assumption)
                                    have q198 : x11_3 < (l0.length : Int) := of_decide_eq_true (by first | (with_reducible assumption) | assumption)
                                    obtain ⟨ad198, e198, hx198_0, hx198_1, hx198_2, hx198_3⟩ := at_T31 HR0.out x11_3 p198 q198
                                    obtain rfl : ad197 = ad198 := (by injection e198)
                                    replace hx198_0 := (HB.out.cell (World.block_lt_of_cell? w _ hx198_0)).trans hx198_0
                                    replace hx198_1 := (HB.out.cell (World.block_lt_of_cell? w _ hx198_1)).trans hx198_1
                                    replace hx198_2 := (HB.out.cell (World.block_lt_of_cell? w _ hx198_2)).trans hx198_2
                                    replace hx198_3 := (HB.out.cell (World.block_lt_of_cell? w _ hx198_3)).trans hx198_3
                                    replace p198 := eq_true p198
                                    replace q198 := eq_true q198
                                    go_wp2_with (first | ((with_reducible refine gate_callee (f := 27) rfl ?_); refine goesL_ (some 74) rfl rfl Try.func27 (by kernel_rfl) rfl #[.agg #[.string ((rd_T31 l0 x11_3).f0), .int .u64 ((rd_T31 l0 x11_3).f1), .int .i64 ((rd_T31 l0 x11_3).f2), .string ((rd_T31 l0 x11_3).f3)], .string ((rd_T31 l0 (ji31)).f0)] rfl (by (try simp only [List.map_toArray, List.map_cons, List.map_nil]); first | done | (simp only [hji31]; rfl) | rfl | (simp only [List.length_drop, List.length_take]; rfl)) ?_; (with_reducible refine (freshetref11_row.calls k3 ((rd_T31 l0 x11_3).f0) ((rd_T31 l0 x11_3).f1) ((rd_T31 l0 x11_3).f2) ((rd_T31 l0 x11_3).f3) ((rd_T31 l0 (ji31)).f0) t199 _ A35.out).mono ?_); rintro e w39 ⟨rfl, hb⟩; refine ⟨_, rfl, ?_⟩; have n0_ := Aside0.mk (below_step (by repeat (first | (with_reducible first | exact HB.out | apply below_alloc | apply pw_below_drewN | apply below_drew1) | exact HB.out)) hb); clear HB; have HB := n0_; clear n0_; (try clear hb); (try clear hb2); (try clear hk); (try clear hi)))
                                    go_roundg k3
                                    case measure => have := HJ2.out; have := HK2.out; have := HK3.out; omega
                                    case rel => exact ⟨(x9_3 ++ t199), (x10_3), (wrap64 (x11_3 + 1)), (by first | rfl | (simp; done) | (simp [*]; done)), (by first | rfl | (simp; done) | (simp [*]; done)), (by first | rfl | (simp; done) | (simp [*]; done)), H', ⟨by have := HJ2.out; have := HK2.out; have := HK3.out; omega⟩, ⟨by repeat (first | (with_reducible first | exact HB.out | apply below_alloc | apply pw_below_drewN | apply below_drew1) | exact HB.out)⟩⟩
                                · rw [if_neg c36] at H
                                  exact absurd H (by simp)
                              · rw [if_neg c34] at H
                                exact absurd H (by simp)
                            · rw [if_neg c33] at H
                              exact absurd H (by simp)
                          · rw [if_neg c32] at H
                            exact absurd H (by simp)
                    · rw [if_neg c18] at H
                      have c18b0 : decide (x11_3 < (l0.length : Int)) = false := decide_eq_false c18
                      clear c18
                      by_cases c40 : x9_3.size + x10_3.size ≤ 9223372036854775807
                      · rw [if_pos c40] at H
                        have c40b0 := eq_true c40
                        have c40b1 : decide (x9_3.size + x10_3.size ≤ 9223372036854775807) = true := decide_eq_true c40
                        try have c40b2 : (9223372036854775807 < x9_3.size + x10_3.size) = False := eq_false (Nat.not_lt.2 c40)
                        replace H := Option.bind_eq_some_iff.mp H
                        obtain ⟨t200, A410, H⟩ := H
                        replace H : (if (x9_3 ++ x10_3).size + t200.size ≤ 9223372036854775807 then ((freshetref11_four.f a1).bind fun t201 => (if ((x9_3 ++ x10_3) ++ t200).size + t201.size ≤ 9223372036854775807 then (if ((((x9_3 ++ x10_3) ++ t200) ++ t201).size : Int) > 65536 then (some ((⟨#[]⟩ : ByteArray), 3)) else (some (((x9_3 ++ x10_3) ++ t200) ++ t201, 0))) else (none))) else (none)) = some (r1, r2) := H
                        have A41 := Aside0.mk A410
                        clear A410
                        by_cases c42 : (x9_3 ++ x10_3).size + t200.size ≤ 9223372036854775807
                        · rw [if_pos c42] at H
                          have c42b0 := eq_true c42
                          have c42b1 : decide ((x9_3 ++ x10_3).size + t200.size ≤ 9223372036854775807) = true := decide_eq_true c42
                          try have c42b1m := c42b1
                          try simp only [ByteArray.size_append, Int.natCast_add] at c42b1m
                          try have c42b2 : (9223372036854775807 < (x9_3 ++ x10_3).size + t200.size) = False := eq_false (Nat.not_lt.2 c42)
                          try have c42b4 := c42
                          try simp only [ByteArray.size_append, ByteArray.size_extract] at c42b4
                          try have c42b6 := c42b2
                          try simp only [ByteArray.size_append, ByteArray.size_extract] at c42b6
                          replace H := Option.bind_eq_some_iff.mp H
                          obtain ⟨t201, A430, H⟩ := H
                          replace H : (if ((x9_3 ++ x10_3) ++ t200).size + t201.size ≤ 9223372036854775807 then (if ((((x9_3 ++ x10_3) ++ t200) ++ t201).size : Int) > 65536 then (some ((⟨#[]⟩ : ByteArray), 3)) else (some (((x9_3 ++ x10_3) ++ t200) ++ t201, 0))) else (none)) = some (r1, r2) := H
                          have A43 := Aside0.mk A430
                          clear A430
                          by_cases c44 : ((x9_3 ++ x10_3) ++ t200).size + t201.size ≤ 9223372036854775807
                          · rw [if_pos c44] at H
                            have c44b0 := eq_true c44
                            have c44b1 : decide (((x9_3 ++ x10_3) ++ t200).size + t201.size ≤ 9223372036854775807) = true := decide_eq_true c44
                            try have c44b1m := c44b1
                            try simp only [ByteArray.size_append, Int.natCast_add] at c44b1m
                            try have c44b2 : (9223372036854775807 < ((x9_3 ++ x10_3) ++ t200).size + t201.size) = False := eq_false (Nat.not_lt.2 c44)
                            try have c44b4 := c44
                            try simp only [ByteArray.size_append, ByteArray.size_extract] at c44b4
                            try have c44b6 := c44b2
                            try simp only [ByteArray.size_append, ByteArray.size_extract] at c44b6
                            by_cases c45 : ((((x9_3 ++ x10_3) ++ t200) ++ t201).size : Int) > 65536
                            · rw [if_pos c45] at H
                              have c45b0 : decide (65536 < ((((x9_3 ++ x10_3) ++ t200) ++ t201).size : Int)) = true := decide_eq_true c45
                              try have c45b0m := c45b0
                              try simp only [ByteArray.size_append, Int.natCast_add] at c45b0m
                              have c45b1 : decide (65536 < (((x9_3 ++ x10_3) ++ t200) ++ t201).size) = true := decide_eq_true (by omega)
                              try have c45b1m := c45b1
                              try simp only [ByteArray.size_append, Int.natCast_add] at c45b1m
                              clear c45
                              simp only [Option.some.injEq, Prod.mk.injEq] at H
                              obtain ⟨rfl, rfl⟩ := H
                              have hwq : wrap64 ((x10_3.size : Int) / 4) = (x10_3.size : Int) / 4 := by unfold wrap64; omega
                              go_wp2_with (first | ((with_reducible refine gate_callee (f := 26) rfl ?_); refine goesL_ (some 85) rfl rfl Try.func26 (by kernel_rfl) rfl #[.int .i64 (wrap64 ((x10_3.size : Int) / 4))] rfl (by (try simp only [List.map_toArray, List.map_cons, List.map_nil]); first | done | rfl | (rw [hwq]; rfl) | (simp only [List.length_drop, List.length_take]; rfl)) ?_; (with_reducible refine (freshetref11_four.calls (wrap64 ((x10_3.size : Int) / 4)) t200 _ A41.out).mono ?_); rintro e w46 ⟨rfl, hb⟩; refine ⟨_, rfl, ?_⟩; have n0_ := Aside0.mk (below_step (by repeat (first | (with_reducible first | exact HB.out | apply below_alloc | apply pw_below_drewN | apply below_drew1) | exact HB.out)) hb); clear HB; have HB := n0_; clear n0_; (try clear hb); (try clear hb2); (try clear hk); (try clear hi)) | ((with_reducible refine gate_callee (f := 26) rfl ?_); refine goesL_ (some 88) rfl rfl Try.func26 (by kernel_rfl) rfl #[.int .i64 a1] rfl (by (try simp only [List.map_toArray, List.map_cons, List.map_nil]); first | done | rfl | (simp only [List.length_drop, List.length_take]; rfl)) ?_; (with_reducible refine (freshetref11_four.calls a1 t201 _ A43.out).mono ?_); rintro e w47 ⟨rfl, hb⟩; refine ⟨_, rfl, ?_⟩; have n0_ := Aside0.mk (below_step (by repeat (first | (with_reducible first | exact HB.out | apply below_alloc | apply pw_below_drewN | apply below_drew1) | exact HB.out)) hb); clear HB; have HB := n0_; clear n0_; (try clear hb); (try clear hb2); (try clear hk); (try clear hi)))
                              go_ret2
                              exact ⟨by first | rfl | (simp [errW_none, errW_some] <;> rfl) | (simp [*, errW_none, errW_some] <;> rfl), by repeat (first | (with_reducible first | exact HB.out | apply below_alloc | apply pw_below_drewN | apply below_drew1) | exact HB.out)⟩
                            · rw [if_neg c45] at H
                              have c45b0 : decide (65536 < ((((x9_3 ++ x10_3) ++ t200) ++ t201).size : Int)) = false := decide_eq_false c45
                              try have c45b0m := c45b0
                              try simp only [ByteArray.size_append, Int.natCast_add] at c45b0m
                              have c45b1 : decide (65536 < (((x9_3 ++ x10_3) ++ t200) ++ t201).size) = false := decide_eq_false (by omega)
                              try have c45b1m := c45b1
                              try simp only [ByteArray.size_append, Int.natCast_add] at c45b1m
                              clear c45
                              simp only [Option.some.injEq, Prod.mk.injEq] at H
                              obtain ⟨rfl, rfl⟩ := H
                              have hwq : wrap64 ((x10_3.size : Int) / 4) = (x10_3.size : Int) / 4 := by unfold wrap64; omega
                              go_wp2_with (first | ((with_reducible refine gate_callee (f := 26) rfl ?_); refine goesL_ (some 85) rfl rfl Try.func26 (by kernel_rfl) rfl #[.int .i64 (wrap64 ((x10_3.size : Int) / 4))] rfl (by (try simp only [List.map_toArray, List.map_cons, List.map_nil]); first | done | rfl | (rw [hwq]; rfl) | (simp only [List.length_drop, List.length_take]; rfl)) ?_; (with_reducible refine (freshetref11_four.calls (wrap64 ((x10_3.size : Int) / 4)) t200 _ A41.out).mono ?_); rintro e w48 ⟨rfl, hb⟩; refine ⟨_, rfl, ?_⟩; have n0_ := Aside0.mk (below_step (by repeat (first | (with_reducible first | exact HB.out | apply below_alloc | apply pw_below_drewN | apply below_drew1) | exact HB.out)) hb); clear HB; have HB := n0_; clear n0_; (try clear hb); (try clear hb2); (try clear hk); (try clear hi)) | ((with_reducible refine gate_callee (f := 26) rfl ?_); refine goesL_ (some 88) rfl rfl Try.func26 (by kernel_rfl) rfl #[.int .i64 a1] rfl (by (try simp only [List.map_toArray, List.map_cons, List.map_nil]); first | done | rfl | (simp only [List.length_drop, List.length_take]; rfl)) ?_; (with_reducible refine (freshetref11_four.calls a1 t201 _ A43.out).mono ?_); rintro e w49 ⟨rfl, hb⟩; refine ⟨_, rfl, ?_⟩; have n0_ := Aside0.mk (below_step (by repeat (first | (with_reducible first | exact HB.out | apply below_alloc | apply pw_below_drewN | apply below_drew1) | exact HB.out)) hb); clear HB; have HB := n0_; clear n0_; (try clear hb); (try clear hb2); (try clear hk); (try clear hi)))
                              go_ret2
                              exact ⟨by first | rfl | (simp [errW_none, errW_some] <;> rfl) | (simp [*, errW_none, errW_some] <;> rfl), by repeat (first | (with_reducible first | exact HB.out | apply below_alloc | apply pw_below_drewN | apply below_drew1) | exact HB.out)⟩
                          · rw [if_neg c44] at H
                            exact absurd H (by simp)
                        · rw [if_neg c42] at H
                          exact absurd H (by simp)
                      · rw [if_neg c40] at H
                        exact absurd H (by simp)

end Go.Proofs.Ytjgbcaemcohmpaa.Print
-- RefBlk
namespace Go.Proofs.Ytjgbcaemcohmpaa.Block
open Go.RowKit Aid Txt Print Go.Proofs.YtjgbcaemcohmpaaW.PrintWords
theorem refcheck_eq (x : S31) (h : Fit x) (k : Nat) : freshetref11_Check.f (k + 1) x.f0 x.f1 x.f2 x.f3 = some ((PBlock.check (rowS x) : Nat) : Int) := by
  obtain ⟨a, s, q, v⟩ := x
  obtain ⟨h0, h1⟩ := h
  dsimp only at h0 h1
  have ha : (L a = []) ↔ a.size = 0 := by rw [← L_length]; exact List.length_eq_zero_iff.symm
  have hv : (L v = []) ↔ v.size = 0 := by rw [← L_length]; exact List.length_eq_zero_iff.symm
  have hs : s.toNat = 0 ↔ s = 0 := by omega
  have hj1 : ∀ b, freshetref11_Check.j0 (k + 1) b a s q v = some (if b = true then 2 else if (a.size : Int) > 520 then 3 else if (v.size : Int) > 2048 then 3 else 0) := by
    intro b
    simp only [freshetref11_Check.j0]
    split
    · rfl
    · split
      · rfl
      · split <;> rfl
  unfold freshetref11_Check.f PBlock.check rowS
  dsimp only
  simp only [hj1, L_length, ha, hv, hs, ne_eq, gt_iff_lt, decide_eq_true_eq]
  generalize a.size = n
  generalize v.size = m
  clear ha hv hj1
  repeat' split
  all_goals first | rfl | (exfalso; omega) | (exfalso; simp_all; done) | (exfalso; simp_all; omega)
theorem refahead_eq (x : S31) (hx : Fit x) (key : ByteArray) (s : Int) (h0 : 0 ≤ s) : freshetref08_Ahead.f x.f0 x.f1 x.f2 x.f3 key s = some (PBlock.ahead (rowS x) (L key) s.toNat) := ahead_eq x hx key s h0
theorem reforder_ev (l : List S31) (hl : ∀ x ∈ l, Fit x) (hs : l.length ≤ 9223372036854775806) (d : Nat) : ∀ i : Nat, i < l.length → l.length - (i + 1) ≤ d → Ev (fun k => freshetref11_Order.l0 k l ((i + 1 : Nat) : Int)) (PBlock.order ((l.drop i).map rowS)) := by
  induction d with
  | zero =>
    intro i hi hd
    refine Ev.step (f := fun _ => some true) (fun k => ?_) ?_
    · simp only [freshetref11_Order.l0]
      rw [if_neg (by omega)]
    · have : (l.drop i).map rowS = [rowS l[i]] := by
        rw [List.drop_eq_getElem_cons hi, List.drop_eq_nil_of_le (by omega)]; rfl
      rw [this]
      exact Ev.now _
  | succ d ih =>
    intro i hi hd
    by_cases h1 : i + 1 < l.length
    · have e1 : (l.drop i).map rowS = rowS l[i] :: rowS l[i + 1] :: ((l.drop (i + 1 + 1)).map rowS) := by
        rw [List.drop_eq_getElem_cons hi, List.drop_eq_getElem_cons h1]; rfl
      have e2 : (l.drop (i + 1)).map rowS = rowS l[i + 1] :: ((l.drop (i + 1 + 1)).map rowS) := by
        rw [List.drop_eq_getElem_cons h1]; rfl
      have ha := refahead_eq l[i] (hl _ (List.getElem_mem _)) (l[i + 1]).f0 (l[i + 1]).f1 (hl _ (List.getElem_mem _)).s0
      have hw : wrap64 (((i + 1 : Nat) : Int) - 1) = (i : Int) := by rw [wrap_id (by omega) (by omega)]; omega
      have hn : wrap64 (((i + 1 : Nat) : Int) + 1) = ((i + 1 + 1 : Nat) : Int) := by rw [wrap_id (by omega) (by omega)]; omega
      cases hc : PBlock.ahead (rowS l[i]) (L (l[i + 1]).f0) (l[i + 1]).f1.toNat with
      | true =>
        have e := ih (i + 1) h1 (by omega)
        refine Ev.step (fun k => ?_) (by rw [e1, PBlock.order, show PBlock.ahead (rowS l[i]) (rowS l[i + 1]).key (rowS l[i + 1]).seq = true from hc, Bool.true_and, ← e2]; exact e)
        simp only [freshetref11_Order.l0]
        rw [if_pos (by omega), hw, if_pos (by omega), if_pos (by omega), if_pos (by omega), at_S31 l i hi, at_S31 l (i + 1) h1, ha, hc, Option.bind_some, if_pos rfl, hn]
      | false =>
        refine Ev.step (f := fun _ => some false) (fun k => ?_) (by rw [e1, PBlock.order, show PBlock.ahead (rowS l[i]) (rowS l[i + 1]).key (rowS l[i + 1]).seq = false from hc, Bool.false_and]; exact Ev.now _)
        simp only [freshetref11_Order.l0]
        rw [if_pos (by omega), hw, if_pos (by omega), if_pos (by omega), if_pos (by omega), at_S31 l i hi, at_S31 l (i + 1) h1, ha, hc, Option.bind_some, if_neg (by simp)]
    · refine Ev.step (f := fun _ => some true) (fun k => ?_) ?_
      · simp only [freshetref11_Order.l0]
        rw [if_neg (by omega)]
      · have : (l.drop i).map rowS = [rowS l[i]] := by
          rw [List.drop_eq_getElem_cons hi, List.drop_eq_nil_of_le (by omega)]; rfl
        rw [this]
        exact Ev.now _
theorem reforder_eq (l : List S31) (hl : ∀ x ∈ l, Fit x) (hs : l.length ≤ 9223372036854775806) : Ev (fun k => freshetref11_Order.f k l) (PBlock.order (l.map rowS)) := by
  unfold freshetref11_Order.f
  cases l with
  | nil =>
    refine Ev.step (f := fun _ => some true) (fun k => ?_) (Ev.now _)
    simp only [freshetref11_Order.l0]
    rw [if_neg (by simp)]
  | cons a l =>
    have := reforder_ev (a :: l) hl hs _ 0 (by simp) (Nat.le_refl _)
    simp only [List.drop_zero] at this
    exact this
theorem reffour_eq (n : Nat) (h : n < 9223372036854775808) : freshetref11_four.f (n : Int) = some (B (PBlock.four n)) := by
  unfold freshetref11_four.f PBlock.four
  have t1 : ∀ m : Nat, m < 9223372036854775808 → ∀ c : Nat, 0 < c → wrap64 (Int.tdiv (m : Int) (c : Int)) = ((m / c : Nat) : Int) := by
    intro m hm c hc
    rw [Int.tdiv_eq_ediv_of_nonneg (by omega), ← Int.natCast_ediv]
    have := Nat.div_le_self m c
    generalize m / c = z at *
    exact wrap_id (by omega) (by omega)
  have t2 : ∀ m : Nat, (Int.tmod (m : Int) 256) % 256 = ((m % 256 : Nat) : Int) := by
    intro m
    rw [Int.tmod_eq_emod_of_nonneg (by omega)]
    omega
  have q1 := t1 n h 256 (by omega)
  have q2 := t1 n h 65536 (by omega)
  have q3 := t1 n h 16777216 (by omega)
  rw [show ((256 : Nat) : Int) = 256 from rfl] at q1
  rw [show ((65536 : Nat) : Int) = 65536 from rfl] at q2
  rw [show ((16777216 : Nat) : Int) = 16777216 from rfl] at q3
  rw [q1, q2, q3, t2, t2, t2, t2]
  rfl
/-- a row behind n bytes of the key ahead -/
def rowAt (n : Nat) (r : PBlock.Row) : List UInt8 :=
  PCode.putUint n ++ PCode.putField (r.key.drop n) ++ PCode.putUint r.seq ++ [UInt8.ofNat (r.kind % 256).toNat] ++ (if r.kind = 1 then PCode.putField r.value else [])
theorem refrow_j1 (x : S31) (hx : Fit x) (hk : x.f0.size ≤ 520) (hv : x.f3.size ≤ 2048) (n : Nat) (hn : n ≤ x.f0.size) :
    Ev (fun k => freshetref11_row.j1 k (n : Int) x.f0 x.f1 x.f2 x.f3) (B (rowAt n (rowS x))) := by
  obtain ⟨a, s, q, v⟩ := x
  obtain ⟨h0, h1⟩ := hx
  dsimp only at h0 h1 hk hv hn ⊢
  obtain ⟨m, rfl⟩ := Int.eq_ofNat_of_zero_le h0
  have e1 : IntKind.u64.wrap (n : Int) = (n : Int) := wrap_u64_id (by omega) (by omega)
  have p1 := ref_put n (by omega)
  have p2 := ref_putField (a.extract n a.size) (by rw [ByteArray.size_extract]; omega)
  rw [L_drop] at p2
  have p3 := ref_put m (by omega)
  have p4 := ref_putField v (by omega)
  have z1 : (B (PCode.putUint n)).size ≤ 10 := putUint_fits n (by omega)
  have z2 : (B (PCode.putField ((L a).drop n))).size ≤ 600 := by
    have := PCode.putUint_length_ten (n := ((L a).drop n).length) (by rw [List.length_drop, L_length]; omega)
    rw [size_B]; unfold PCode.putField; rw [List.length_append, List.length_drop, L_length] at *; omega
  have z3 : (B (PCode.putUint m)).size ≤ 10 := putUint_fits m (by omega)
  have z4 : (B (PCode.putField (L v))).size ≤ 2100 := by
    have := PCode.putUint_length_ten (n := (L v).length) (by rw [L_length]; omega)
    rw [size_B]; unfold PCode.putField; rw [List.length_append, L_length] at *; omega
  have z5 : (strOfNums [q % 256]).size = 1 := rfl
  have hcat : B (rowAt n (rowS ⟨a, (m : Int), q, v⟩)) = (((B (PCode.putUint n) ++ B (PCode.putField ((L a).drop n))) ++ B (PCode.putUint m)) ++ strOfNums [q % 256]) ++ (if q = 1 then B (PCode.putField (L v)) else B []) := by
    apply L_inj
    unfold rowAt rowS
    simp only [L_append, L_B, L_nums, Int.toNat_natCast]
    congr 1
    by_cases e : q = 1
    · rw [if_pos e, if_pos e, L_B]
    · rw [if_neg e, if_neg e, L_B]
  rw [hcat]
  generalize B (PCode.putUint n) = t1 at *
  generalize B (PCode.putField ((L a).drop n)) = t2 at *
  generalize B (PCode.putUint m) = t3 at *
  generalize B (PCode.putField (L v)) = t4 at *
  refine Ev.step (f := fun k => (freshetref02_PutUint.f k (n : Int)).bind fun t184 => _) (fun k => by simp only [freshetref11_row.j1]; rw [e1]) ?_
  refine Ev.bind p1 ?_
  refine Ev.congr (fun k => if_pos (show (0 : Int) ≤ (n : Int) by omega)) ?_
  refine Ev.congr (fun k => if_pos (show (n : Int) ≤ (a.size : Int) by omega)) ?_
  refine Ev.bind (a := t2) (by rw [Int.toNat_natCast]; exact p2) ?_
  refine Ev.congr (fun k => if_pos (show t1.size + t2.size ≤ 9223372036854775807 by omega)) ?_
  refine Ev.bind p3 ?_
  refine Ev.congr (fun k => if_pos (show (t1 ++ t2).size + t3.size ≤ 9223372036854775807 by rw [ByteArray.size_append]; omega)) ?_
  refine Ev.bind (Ev.now _) ?_
  refine Ev.congr (fun k => if_pos (show (t1 ++ t2 ++ t3).size + (strOfNums [q % 256]).size ≤ 9223372036854775807 by rw [ByteArray.size_append, ByteArray.size_append]; omega)) ?_
  by_cases e : q = 1
  · refine Ev.congr (fun k => if_pos e) ?_
    rw [if_pos e]
    refine Ev.bind p4 ?_
    refine Ev.congr (fun k => if_pos (show (t1 ++ t2 ++ t3 ++ strOfNums [q % 256]).size + t4.size ≤ 9223372036854775807 by rw [ByteArray.size_append, ByteArray.size_append, ByteArray.size_append]; omega)) ?_
    exact Ev.now _
  · refine Ev.congr (fun k => if_neg e) ?_
    rw [if_neg e]
    have : t1 ++ t2 ++ t3 ++ strOfNums [q % 256] ++ B [] = t1 ++ t2 ++ t3 ++ strOfNums [q % 256] := by apply L_inj; rw [L_append _ (B []), L_B, List.append_nil]
    rw [this]
    exact Ev.now _
theorem rowEnc_at (r : PBlock.Row) (last : List UInt8) : PBlock.rowEnc r last = rowAt (PBlock.common last r.key) r := rfl
theorem refrow_l0 (x : S31) (hx : Fit x) (hk : x.f0.size ≤ 520) (hv : x.f3.size ≤ 2048) (last : ByteArray) (d : Nat) : ∀ i : Nat, i ≤ last.size → i ≤ x.f0.size → last.size - i ≤ d →
    Ev (fun k => freshetref11_row.l0 k last (i : Int) x.f0 x.f1 x.f2 x.f3) (B (rowAt (i + PBlock.common ((L last).drop i) ((L x.f0).drop i)) (rowS x))) := by
  induction d with
  | zero =>
    intro i hi hj hd
    refine Ev.step (f := fun k => freshetref11_row.j1 k (i : Int) x.f0 x.f1 x.f2 x.f3) (fun k => ?_) ?_
    · simp only [freshetref11_row.l0]
      rw [if_neg (by omega)]
    · rw [show (L last).drop i = [] from List.drop_eq_nil_of_le (by rw [L_length]; omega)]
      exact refrow_j1 x hx hk hv i hj
  | succ d ih =>
    intro i hi hj hd
    by_cases h1 : i < last.size
    · by_cases h2 : i < x.f0.size
      · have e1 : (L last).drop i = (L last)[i]'(by rw [L_length]; omega) :: (L last).drop (i + 1) := List.drop_eq_getElem_cons _
        have e2 : (L x.f0).drop i = (L x.f0)[i]'(by rw [L_length]; omega) :: (L x.f0).drop (i + 1) := List.drop_eq_getElem_cons _
        have b1 : bt last (i : Int) = ((L last)[i]'(by rw [L_length]; omega)).toNat := bt_get last (by omega) (by omega)
        have b2 : bt x.f0 (i : Int) = ((L x.f0)[i]'(by rw [L_length]; omega)).toNat := bt_get x.f0 (by omega) (by omega)
        by_cases h3 : (L last)[i]'(by rw [L_length]; omega) = (L x.f0)[i]'(by rw [L_length]; omega)
        · have e := ih (i + 1) (by omega) (by omega) (by omega)
          rw [e1, e2, PBlock.common, if_pos h3]
          refine Ev.step (fun k => ?_) (by rw [show i + (PBlock.common ((L last).drop (i + 1)) ((L x.f0).drop (i + 1)) + 1) = i + 1 + PBlock.common ((L last).drop (i + 1)) ((L x.f0).drop (i + 1)) by omega]; exact e)
          simp only [freshetref11_row.l0]
          rw [if_pos (by omega), if_pos (by omega), if_pos (by omega), if_pos (by rw [b1, b2, h3]), wrap_id (by omega) (by omega)]
          rfl
        · refine Ev.step (f := fun k => freshetref11_row.j1 k (i : Int) x.f0 x.f1 x.f2 x.f3) (fun k => ?_) ?_
          · simp only [freshetref11_row.l0]
            rw [if_pos (by omega), if_pos (by omega), if_pos (by omega), if_neg (by rw [b1, b2]; exact fun e => h3 (UInt8.toNat_inj.mp (by omega)))]
          · rw [e1, e2, PBlock.common, if_neg h3]
            exact refrow_j1 x hx hk hv i hj
      · refine Ev.step (f := fun k => freshetref11_row.j1 k (i : Int) x.f0 x.f1 x.f2 x.f3) (fun k => ?_) ?_
        · simp only [freshetref11_row.l0]
          rw [if_pos (by omega), if_neg (by omega)]
        · rw [show (L x.f0).drop i = [] from List.drop_eq_nil_of_le (by rw [L_length]; omega)]
          have : PBlock.common ((L last).drop i) [] = 0 := by cases (L last).drop i <;> rfl
          rw [this]
          exact refrow_j1 x hx hk hv i hj
    · refine Ev.step (f := fun k => freshetref11_row.j1 k (i : Int) x.f0 x.f1 x.f2 x.f3) (fun k => ?_) ?_
      · simp only [freshetref11_row.l0]
        rw [if_neg (by omega)]
      · rw [show (L last).drop i = [] from List.drop_eq_nil_of_le (by rw [L_length]; omega)]
        exact refrow_j1 x hx hk hv i hj
theorem refrow_ev (x : S31) (hx : Fit x) (hk : x.f0.size ≤ 520) (hv : x.f3.size ≤ 2048) (last : ByteArray) :
    Ev (fun k => freshetref11_row.f k x.f0 x.f1 x.f2 x.f3 last) (B (PBlock.rowEnc (rowS x) (L last))) := by
  have h := refrow_l0 x hx hk hv last _ 0 (by omega) (by omega) (Nat.le_refl _)
  rw [List.drop_zero, List.drop_zero, Nat.zero_add] at h
  rw [rowEnc_at]
  exact h
/-- what comes out where all rows may be -/
def fin (l : List PBlock.Row) (R : Nat) : ByteArray × Int := if 65536 < (PBlock.whole l R).length then (⟨#[]⟩, 3) else (B (PBlock.whole l R), 0)
theorem refbuild_l1 (l : List S31) (hl : ∀ x ∈ l, Fit x) (hc : ∀ x ∈ l, PBlock.check (rowS x) = 0) (hn : l.length ≤ 1024) (R : Nat) (hR : 1 ≤ R) (hR2 : R ≤ 64) (d : Nat) : ∀ (i : Nat) (s e : ByteArray), l.length - i ≤ d → i ≤ l.length →
    s = B (PBlock.enc R 0 [] ((l.take i).map rowS)) → e = B (PBlock.fours (PBlock.ends R 0 0 [] ((l.take i).map rowS))) → s.size ≤ 65536 → Ev (fun k => freshetref11_Build.l1 k l (R : Int) s e (i : Int)) (fin (l.map rowS) R) := by
  have hend : ∀ (s e : ByteArray), s = B (PBlock.enc R 0 [] (l.map rowS)) → e = B (PBlock.fours (PBlock.ends R 0 0 [] (l.map rowS))) → s.size ≤ 65536 → ∀ k, freshetref11_Build.l1 (k + 1) l (R : Int) s e (l.length : Int) = some (fin (l.map rowS) R) := by
    intro s e hs he hsz k
    have hel := PBlock.ends_length_le R (l.map rowS) 0 0 []
    rw [List.length_map] at hel
    have hz : e.size = 4 * (PBlock.ends R 0 0 [] (l.map rowS)).length := by rw [he, size_B, PBlock.fours_length]
    have hw := PBlock.whole_length (l.map rowS) R
    have hz2 : s.size = (PBlock.enc R 0 [] (l.map rowS)).length := by rw [hs, size_B]
    have hq : wrap64 ((e.size : Int) / 4) = (((PBlock.ends R 0 0 [] (l.map rowS)).length : Nat) : Int) := by rw [wrap_id (by omega) (by omega)]; omega
    have f1 := reffour_eq (PBlock.ends R 0 0 [] (l.map rowS)).length (by omega)
    have f2 := reffour_eq R (by omega)
    have g1 : (B (PBlock.four (PBlock.ends R 0 0 [] (l.map rowS)).length)).size = 4 := by rw [size_B]; rfl
    have g2 : (B (PBlock.four R)).size = 4 := by rw [size_B]; rfl
    have hcat : B (PBlock.whole (l.map rowS) R) = s ++ e ++ B (PBlock.four (PBlock.ends R 0 0 [] (l.map rowS)).length) ++ B (PBlock.four R) := by
      apply L_inj
      rw [hs, he]
      simp only [L_append, L_B]
      rfl
    have hsz3 : (s ++ e ++ B (PBlock.four (PBlock.ends R 0 0 [] (l.map rowS)).length) ++ B (PBlock.four R)).size = (PBlock.whole (l.map rowS) R).length := by rw [← hcat, size_B]
    simp only [freshetref11_Build.l1]
    rw [if_neg (by omega), if_pos (by omega), hq, f1, Option.bind_some, if_pos (by rw [ByteArray.size_append]; omega), f2, Option.bind_some, if_pos (by rw [ByteArray.size_append, ByteArray.size_append]; omega), hsz3]
    unfold fin
    by_cases hb : 65536 < (PBlock.whole (l.map rowS) R).length
    · rw [if_pos (by omega), if_pos hb]
    · rw [if_neg (by omega), if_neg hb, hcat]
  induction d with
  | zero =>
    intro i s e hd hi hs he hsz
    obtain rfl : i = l.length := by omega
    rw [List.take_length] at hs he
    exact Ev.step (fun k => hend s e hs he hsz k) (Ev.now _)
  | succ d ih =>
    intro i s e hd hi hs he hsz
    by_cases hlt : i < l.length
    case neg =>
      obtain rfl : i = l.length := by omega
      rw [List.take_length] at hs he
      exact Ev.step (fun k => hend s e hs he hsz k) (Ev.now _)
    have hx := hl l[i] (List.getElem_mem _)
    have hck := hc l[i] (List.getElem_mem _)
    have hbd := PBlock.check_ok hck
    have hk : (l[i]).f0.size ≤ 520 := by rw [← L_length]; exact hbd.2.2.2.2.2.1
    have hv : (l[i]).f3.size ≤ 2048 := by rw [← L_length]; exact hbd.2.2.2.2.2.2
    have hs1 : (l.take (i + 1)).map rowS = (l.take i).map rowS ++ [rowS l[i]] := by rw [List.take_succ_eq_append_getElem hlt, List.map_append, List.map_cons, List.map_nil]
    have hlen : ((l.take i).map rowS).length = i := by rw [List.length_map, List.length_take]; omega
    have hX := PBlock.enc_snoc R ((l.take i).map rowS) (rowS l[i]) 0 []
    have hE := PBlock.ends_snoc R ((l.take i).map rowS) (rowS l[i]) 0 0 []
    rw [hlen, Nat.zero_add, ← hs1] at hX hE
    have hel := PBlock.ends_length_le R ((l.take i).map rowS) 0 0 []
    rw [hlen] at hel
    have hez : e.size = 4 * (PBlock.ends R 0 0 [] ((l.take i).map rowS)).length := by rw [he, size_B, PBlock.fours_length]
    have hfar : 65536 < (PBlock.enc R 0 [] ((l.take (i + 1)).map rowS)).length → fin (l.map rowS) R = (⟨#[]⟩, 3) := fun h => by
      have h3 := PBlock.enc_take_le R (l.map rowS) (i + 1) 0 []
      rw [← List.map_take] at h3
      have h4 := PBlock.whole_length (l.map rowS) R
      unfold fin; rw [if_pos (by omega)]
    have t1 : (i : Int) < (l.length : Int) := by omega
    have t2 : ¬ (R : Int) = 0 := by omega
    have t3 : (0 : Int) ≤ (i : Int) := by omega
    have hm := Lib.hid (show Int.tmod (i : Int) (R : Int) = ((i % R : Nat) : Int) by rw [Int.tmod_eq_emod_of_nonneg (by omega)]; rfl)
    have hn1 := Lib.hid (show wrap64 ((i : Int) + 1) = ((i + 1 : Nat) : Int) by rw [wrap_id (by omega) (by omega)]; omega)
    have hrl := fun last => PBlock.rowEnc_le (rowS l[i]) last hck
    by_cases hz : i % R = 0
    · rw [if_pos hz] at hX hE
      have hr := refrow_ev l[i] hx hk hv ⟨#[]⟩
      have hr0 : (B (PBlock.rowEnc (rowS l[i]) (L ⟨#[]⟩))).size ≤ 3000 := by rw [size_B]; exact hrl _
      have hcat : s ++ B (PBlock.rowEnc (rowS l[i]) (L ⟨#[]⟩)) = B (PBlock.enc R 0 [] ((l.take (i + 1)).map rowS)) := by
        apply L_inj; rw [L_append, hs, L_B, L_B, L_B, hX]
      have f1 := reffour_eq s.size (by omega)
      have g1 : (B (PBlock.four s.size)).size = 4 := by rw [size_B]; rfl
      have t4 : e.size + (B (PBlock.four s.size)).size ≤ 9223372036854775807 := by omega
      refine Ev.step (f := fun k => (freshetref11_row.f k (l[i]).f0 (l[i]).f1 (l[i]).f2 (l[i]).f3 ⟨#[]⟩).bind fun t196 => (if s.size + t196.size ≤ 9223372036854775807 then (if ((s ++ t196).size : Int) > 65536 then (some ((⟨#[]⟩ : ByteArray), 3)) else (freshetref11_Build.l1 k l (R : Int) (s ++ t196) (e ++ B (PBlock.four s.size)) ((i + 1 : Nat) : Int))) else (none))) (fun k => ?_) ?_
      · simp only [freshetref11_Build.l1]
        rw [if_pos t1, if_neg t2, hm.out, if_pos (show ((i % R : Nat) : Int) = 0 by rw [hz]; rfl), f1, Option.bind_some, if_pos t4, if_pos t3, at_S31 l i hlt, hn1.out]
      · refine Ev.bind hr ?_
        refine Ev.congr (fun k => if_pos (show s.size + (B (PBlock.rowEnc (rowS l[i]) (L ⟨#[]⟩))).size ≤ 9223372036854775807 by omega)) ?_
        rw [hcat]
        have hzX : (B (PBlock.enc R 0 [] ((l.take (i + 1)).map rowS))).size = (PBlock.enc R 0 [] ((l.take (i + 1)).map rowS)).length := size_B _
        by_cases hbg : 65536 < (PBlock.enc R 0 [] ((l.take (i + 1)).map rowS)).length
        · rw [hfar hbg]
          have hbg2 : ((B (PBlock.enc R 0 [] ((l.take (i + 1)).map rowS))).size : Int) > 65536 := by omega
          exact Ev.congr (fun k => if_pos hbg2) (Ev.now _)
        · have hbg2 : ¬ ((B (PBlock.enc R 0 [] ((l.take (i + 1)).map rowS))).size : Int) > 65536 := by omega
          refine Ev.congr (fun k => if_neg hbg2) ?_
          have hee : e ++ B (PBlock.four s.size) = B (PBlock.fours (PBlock.ends R 0 0 [] ((l.take (i + 1)).map rowS))) := by
            have hsz9 : s.size = (PBlock.enc R 0 [] ((l.take i).map rowS)).length := by rw [hs, size_B]
            have hf9 : ∀ n, PBlock.fours [n] = PBlock.four n := fun n => by simp [PBlock.fours]
            apply L_inj
            rw [L_append, he, L_B, L_B, L_B, hE, PBlock.fours_append, Nat.zero_add, hsz9, hf9]
          exact ih (i + 1) _ _ (by omega) (by omega) rfl hee (by omega)
    · rw [if_neg hz] at hX hE
      obtain ⟨j, rfl⟩ : ∃ j, i = j + 1 := ⟨i - 1, by have : i ≠ 0 := (by rintro rfl; simp at hz); omega⟩
      have hjl : j < l.length := by omega
      have hlast : PBlock.lastOf [] ((l.take (j + 1)).map rowS) = L (l[j]).f0 := by
        rw [List.take_succ_eq_append_getElem hjl, List.map_append, List.map_cons, List.map_nil, PBlock.lastOf_snoc]; rfl
      rw [hlast] at hX
      have hr := refrow_ev l[j + 1] hx hk hv (l[j]).f0
      have hr0 : (B (PBlock.rowEnc (rowS l[j + 1]) (L (l[j]).f0))).size ≤ 3000 := by rw [size_B]; exact hrl _
      have hcat : s ++ B (PBlock.rowEnc (rowS l[j + 1]) (L (l[j]).f0)) = B (PBlock.enc R 0 [] ((l.take (j + 1 + 1)).map rowS)) := by
        apply L_inj; rw [L_append, hs, L_B, L_B, L_B, hX]
      have t4 : (0 : Int) ≤ (j : Int) := by omega
      have t5 : (j : Int) < (l.length : Int) := by omega
      have t6 : ¬ (((j + 1) % R : Nat) : Int) = 0 := by omega
      have hw := Lib.hid (show wrap64 (((j + 1 : Nat) : Int) - 1) = (j : Int) by rw [wrap_id (by omega) (by omega)]; omega)
      refine Ev.step (f := fun k => (freshetref11_row.f k (l[j + 1]).f0 (l[j + 1]).f1 (l[j + 1]).f2 (l[j + 1]).f3 (l[j]).f0).bind fun t199 => (if s.size + t199.size ≤ 9223372036854775807 then (if ((s ++ t199).size : Int) > 65536 then (some ((⟨#[]⟩ : ByteArray), 3)) else (freshetref11_Build.l1 k l (R : Int) (s ++ t199) e ((j + 1 + 1 : Nat) : Int))) else (none))) (fun k => ?_) ?_
      · simp only [freshetref11_Build.l1]
        rw [if_pos t1, if_neg t2, hm.out, if_neg t6, hw.out, if_pos t4, if_pos t5, if_pos t3, at_S31 l (j + 1) hlt, at_S31 l j hjl, hn1.out]
      · refine Ev.bind hr ?_
        refine Ev.congr (fun k => if_pos (show s.size + (B (PBlock.rowEnc (rowS l[j + 1]) (L (l[j]).f0))).size ≤ 9223372036854775807 by omega)) ?_
        rw [hcat]
        have hzX : (B (PBlock.enc R 0 [] ((l.take (j + 1 + 1)).map rowS))).size = (PBlock.enc R 0 [] ((l.take (j + 1 + 1)).map rowS)).length := size_B _
        by_cases hbg : 65536 < (PBlock.enc R 0 [] ((l.take (j + 1 + 1)).map rowS)).length
        · rw [hfar hbg]
          have hbg2 : ((B (PBlock.enc R 0 [] ((l.take (j + 1 + 1)).map rowS))).size : Int) > 65536 := by omega
          exact Ev.congr (fun k => if_pos hbg2) (Ev.now _)
        · have hbg2 : ¬ ((B (PBlock.enc R 0 [] ((l.take (j + 1 + 1)).map rowS))).size : Int) > 65536 := by omega
          refine Ev.congr (fun k => if_neg hbg2) ?_
          have hee : e = B (PBlock.fours (PBlock.ends R 0 0 [] ((l.take (j + 1 + 1)).map rowS))) := by rw [he, hE, List.append_nil]
          exact ih (j + 1 + 1) _ _ (by omega) (by omega) rfl hee (by omega)
/-- is a row too long, or are there too many? -/
def bad2 (l : List S31) : Prop := ∃ x ∈ l, PBlock.check (rowS x) = 2
def bad3 (l : List S31) : Prop := ∃ x ∈ l, PBlock.check (rowS x) = 3
instance (l : List S31) : Decidable (bad2 l) := by unfold bad2; infer_instance
instance (l : List S31) : Decidable (bad3 l) := by unfold bad3; infer_instance
theorem check_three (r : PBlock.Row) : PBlock.check r = 0 ∨ PBlock.check r = 2 ∨ PBlock.check r = 3 := by
  unfold PBlock.check
  split
  · exact .inr (.inl rfl)
  · split
    · exact .inr (.inr rfl)
    · exact .inl rfl
theorem refbuild_l0 (l : List S31) (hl : ∀ x ∈ l, Fit x) (hs : l.length ≤ 9223372036854775806) (R : Nat) (hR : 1 ≤ R) (hR2 : R ≤ 64) (d : Nat) : ∀ (i : Nat) (b : Bool), l.length - i ≤ d → i ≤ l.length → ¬ bad2 (l.take i) → (b = true ↔ 1024 < l.length ∨ bad3 (l.take i)) →
    Ev (fun k => freshetref11_Build.l0 k l (R : Int) b (i : Int)) (if bad2 l then ((⟨#[]⟩ : ByteArray), 2) else if 1024 < l.length ∨ bad3 l then (⟨#[]⟩, 3) else fin (l.map rowS) R) := by
  have hend : ∀ b : Bool, ¬ bad2 l → (b = true ↔ 1024 < l.length ∨ bad3 l) → Ev (fun k => freshetref11_Build.l0 k l (R : Int) b (l.length : Int)) (if bad2 l then ((⟨#[]⟩ : ByteArray), 2) else if 1024 < l.length ∨ bad3 l then (⟨#[]⟩, 3) else fin (l.map rowS) R) := by
    intro b h2 hb
    rw [if_neg h2]
    cases b with
    | true =>
      rw [if_pos (hb.1 rfl)]
      refine Ev.step (f := fun _ => some ((⟨#[]⟩ : ByteArray), 3)) (fun k => ?_) (Ev.now _)
      simp only [freshetref11_Build.l0]
      rw [if_neg (by omega), if_pos trivial]
    | false =>
      have h3 : ¬ (1024 < l.length ∨ bad3 l) := fun h => by have := hb.2 h; cases this
      rw [if_neg h3]
      have hc : ∀ x ∈ l, PBlock.check (rowS x) = 0 := fun x hx => by
        rcases check_three (rowS x) with h | h | h
        · exact h
        · exact absurd ⟨x, hx, h⟩ h2
        · exact absurd (.inr ⟨x, hx, h⟩) h3
      refine Ev.step (f := fun k => freshetref11_Build.l1 k l (R : Int) (⟨#[]⟩ : ByteArray) (⟨#[]⟩ : ByteArray) ((0 : Nat) : Int)) (fun k => ?_) (refbuild_l1 l hl hc (by omega) R hR hR2 l.length 0 _ _ (by omega) (by omega) rfl rfl (Nat.zero_le _))
      simp only [freshetref11_Build.l0]
      rw [if_neg (by omega), if_neg (by simp)]
      rfl
  induction d with
  | zero =>
    intro i b hd hi h2 hb
    obtain rfl : i = l.length := by omega
    rw [List.take_length] at h2 hb
    exact hend b h2 hb
  | succ d ih =>
    intro i b hd hi h2 hb
    by_cases hlt : i < l.length
    case neg =>
      obtain rfl : i = l.length := by omega
      rw [List.take_length] at h2 hb
      exact hend b h2 hb
    have hx := hl l[i] (List.getElem_mem _)
    have t1 : (i : Int) < (l.length : Int) := by omega
    have t3 : (0 : Int) ≤ (i : Int) := by omega
    have hn1 := Lib.hid (show wrap64 ((i : Int) + 1) = ((i + 1 : Nat) : Int) by rw [wrap_id (by omega) (by omega)]; omega)
    have htk : ∀ x, x ∈ l.take (i + 1) ↔ x ∈ l.take i ∨ x = l[i] := fun x => by
      rw [List.take_succ_eq_append_getElem hlt, List.mem_append, List.mem_singleton]
    by_cases hc2 : PBlock.check (rowS l[i]) = 2
    · have hb2 : bad2 l := ⟨l[i], List.getElem_mem _, hc2⟩
      rw [if_pos hb2]
      refine ⟨2, fun n hn => ?_⟩
      obtain ⟨m, rfl⟩ : ∃ m, n = m + 2 := ⟨n - 2, by omega⟩
      have hck := refcheck_eq l[i] hx m
      rw [hc2] at hck
      simp only [freshetref11_Build.l0]
      rw [if_pos t1, if_pos t3, at_S31 l i hlt, hck, Option.bind_some, if_pos (show ((2 : Nat) : Int) = 2 from rfl)]
      rfl
    · have hnb2 : ¬ bad2 (l.take (i + 1)) := by
        rintro ⟨x, hx, h⟩
        rcases (htk x).1 hx with h1 | rfl
        · exact h2 ⟨x, h1, h⟩
        · exact hc2 h
      have hck := Ev.step (g := fun k => freshetref11_Check.f k (l[i]).f0 (l[i]).f1 (l[i]).f2 (l[i]).f3) (f := fun _ => some ((PBlock.check (rowS l[i]) : Nat) : Int)) (refcheck_eq l[i] hx) (Ev.now _)
      have hstep : ∀ b' : Bool, (b' = true ↔ 1024 < l.length ∨ bad3 (l.take (i + 1))) → (∀ k, (if b = true then freshetref11_Build.l0 k l (R : Int) true (wrap64 ((i : Int) + 1)) else freshetref11_Build.l0 k l (R : Int) (((PBlock.check (rowS l[i]) : Nat) : Int) == 3) (wrap64 ((i : Int) + 1))) = freshetref11_Build.l0 k l (R : Int) b' ((i + 1 : Nat) : Int)) →
          Ev (fun k => freshetref11_Build.l0 k l (R : Int) b (i : Int)) (if bad2 l then ((⟨#[]⟩ : ByteArray), 2) else if 1024 < l.length ∨ bad3 l then (⟨#[]⟩, 3) else fin (l.map rowS) R) := fun b' hb' hk => by
        refine Ev.step (f := fun k => (freshetref11_Check.f k (l[i]).f0 (l[i]).f1 (l[i]).f2 (l[i]).f3).bind fun t193 => (if t193 = 2 then (some ((⟨#[]⟩ : ByteArray), t193)) else (if b = true then (freshetref11_Build.l0 k l (R : Int) true (wrap64 ((i : Int) + 1))) else (freshetref11_Build.l0 k l (R : Int) (t193 == 3) (wrap64 ((i : Int) + 1)))))) (fun k => ?_) ?_
        · simp only [freshetref11_Build.l0]
          rw [if_pos t1, if_pos t3, at_S31 l i hlt]
        · refine Ev.bind hck ?_
          refine Ev.congr (fun k => if_neg (show ¬ ((PBlock.check (rowS l[i]) : Nat) : Int) = 2 by omega)) ?_
          exact Ev.congr hk (ih (i + 1) b' (by omega) (by omega) hnb2 hb')
      by_cases hc3 : PBlock.check (rowS l[i]) = 3
      · refine hstep true ⟨fun _ => .inr ⟨l[i], (htk _).2 (.inr rfl), hc3⟩, fun _ => rfl⟩ (fun k => ?_)
        rw [hn1.out, hc3]
        split
        · rfl
        · rfl
      · refine hstep b ?_ (fun k => ?_)
        · rw [hb]
          constructor
          · rintro (h | ⟨x, hx, h⟩)
            · exact .inl h
            · exact .inr ⟨x, (htk x).2 (.inl hx), h⟩
          · rintro (h | ⟨x, hx, h⟩)
            · exact .inl h
            · rcases (htk x).1 hx with h1 | rfl
              · exact .inr ⟨x, h1, h⟩
              · exact absurd h hc3
        · rw [hn1.out]
          cases b with
          | true => rw [if_pos rfl]
          | false =>
            rw [if_neg (by simp), show (((PBlock.check (rowS l[i]) : Nat) : Int) == 3) = false from beq_eq_false_iff_ne.2 (by omega)]
theorem refbuild_ev (l : List S31) (hl : ∀ x ∈ l, Fit x) (hs : l.length ≤ 9223372036854775806) (r : Int) : Ev (fun k => freshetref11_Build.f k l r) (B (PBlock.build (l.map rowS) r).1, ((PBlock.build (l.map rowS) r).2 : Int)) := by
  unfold freshetref11_Build.f
  have hm2 : (∃ y ∈ l.map rowS, PBlock.check y = 2) ↔ bad2 l := by
    constructor
    · rintro ⟨y, hy, h⟩; obtain ⟨x, hx, rfl⟩ := List.mem_map.1 hy; exact ⟨x, hx, h⟩
    · rintro ⟨x, hx, h⟩; exact ⟨rowS x, List.mem_map_of_mem hx, h⟩
  have hm3 : (∃ y ∈ l.map rowS, PBlock.check y = 3) ↔ bad3 l := by
    constructor
    · rintro ⟨y, hy, h⟩; obtain ⟨x, hx, rfl⟩ := List.mem_map.1 hy; exact ⟨x, hx, h⟩
    · rintro ⟨x, hx, h⟩; exact ⟨rowS x, List.mem_map_of_mem hx, h⟩
  have htwo : ∀ {P : Prop}, (P → PBlock.build (l.map rowS) r = ([], 2)) → P → Ev (fun k => freshetref11_Build.j0 k l r true) (B (PBlock.build (l.map rowS) r).1, ((PBlock.build (l.map rowS) r).2 : Int)) := fun h p => by
    rw [h p]
    refine Ev.step (f := fun _ => some ((⟨#[]⟩ : ByteArray), 2)) (fun k => ?_) (Ev.now _)
    simp only [freshetref11_Build.j0]
    rw [if_pos trivial]
  by_cases c1 : r < 1
  · exact Ev.congr (fun k => if_pos c1) (htwo (fun c => by unfold PBlock.build; rw [if_pos (.inl c)]) c1)
  refine Ev.congr (fun k => if_neg c1) ?_
  by_cases c2 : r > 64
  · exact Ev.congr (fun k => if_pos c2) (htwo (fun c => by unfold PBlock.build; rw [if_pos (.inr (.inl c))]) c2)
  refine Ev.congr (fun k => if_neg c2) ?_
  obtain ⟨R, rfl⟩ := Int.eq_ofNat_of_zero_le (show 0 ≤ r by omega)
  refine Ev.bind (reforder_eq l hl hs) ?_
  cases ho : PBlock.order (l.map rowS) with
  | false =>
    exact htwo (fun c => by unfold PBlock.build; rw [if_pos (.inr (.inr (.inl c)))]) ho
  | true =>
    refine Ev.step (f := fun k => freshetref11_Build.l0 k l (R : Int) (decide ((l.length : Int) > 1024)) ((0 : Nat) : Int)) (fun k => ?_) ?_
    · simp only [freshetref11_Build.j0]
      rw [if_neg (by simp)]
      rfl
    · have h0 : ¬ bad2 (l.take 0) := by rintro ⟨x, hx, _⟩; simp at hx
      have h1 : (decide ((l.length : Int) > 1024) = true ↔ 1024 < l.length ∨ bad3 (l.take 0)) := by
        rw [decide_eq_true_eq]
        constructor
        · intro h; exact .inl (by omega)
        · rintro (h | ⟨x, hx, _⟩)
          · omega
          · simp at hx
      have h := refbuild_l0 l hl hs R (by omega) (by omega) l.length 0 _ (by omega) (by omega) h0 h1
      have he : (if bad2 l then ((⟨#[]⟩ : ByteArray), (2 : Int)) else if 1024 < l.length ∨ bad3 l then (⟨#[]⟩, 3) else fin (l.map rowS) R) = (B (PBlock.build (l.map rowS) (R : Int)).1, ((PBlock.build (l.map rowS) (R : Int)).2 : Int)) := by
        unfold PBlock.build fin
        rw [Int.toNat_natCast, List.length_map]
        by_cases b2 : bad2 l
        · rw [if_pos b2, if_pos (.inr (.inr (.inr (hm2.2 b2))))]; rfl
        · have hneg : ¬ ((R : Int) < 1 ∨ 64 < (R : Int) ∨ PBlock.order (l.map rowS) = false ∨ ∃ y ∈ l.map rowS, PBlock.check y = 2) := by
            rintro (h | h | h | h)
            · omega
            · omega
            · rw [ho] at h; cases h
            · exact b2 (hm2.1 h)
          rw [if_neg b2, if_neg hneg]
          by_cases b3 : 1024 < l.length ∨ bad3 l
          · rw [if_pos b3, if_pos (b3.elim .inl fun h => .inr (.inl (hm3.2 h)))]; rfl
          · rw [if_neg b3]
            by_cases b4 : 65536 < (PBlock.whole (l.map rowS) R).length
            · rw [if_pos b4, if_pos (.inr (.inr b4))]; rfl
            · rw [if_neg b4, if_neg (fun h => h.elim (fun h => b3 (.inl h)) (fun h => h.elim (fun h => b3 (.inr (hm3.1 h))) b4))]; rfl
      rw [← he]
      exact h
end Go.Proofs.Ytjgbcaemcohmpaa.Block
