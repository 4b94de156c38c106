/- Texts of this claim, joined by a program of this session (wip/pack.py): Print22, RefRows, PureBlockRows. -/
import Derived.Test.YtjgbcaemcohmpaaQBlockRows5
import Derived.Test.YtjgbcaemcohmpaaQBlockRows6
import Derived.Test.YtjgbcaemcohmpaaQBlockRows9
import Derived.Test.YtjgbcaemcohmpaaQBlockRows14
import Derived.Test.YtjgbcaemcohmpaaQBlockRows15
import Derived.Test.YtjgbcaemcohmpaaQBlockRows17
-- Print22
namespace Go.Proofs.Ytjgbcaemcohmpaa.Print
open Go.RowKit Go.Proofs.YtjgbcaemcohmpaaW.PrintWords Go.Proofs.YtjgbcaemcohmpaaW.PrintLast Go.Proofs.YtjgbcaemcohmpaaW.PrintMore
attribute [local go_sem] max2_int min2_int max_two min_two max_three min_three max_four min_four   -- for this text's walks alone
set_option linter.unusedVariables false
set_option linter.unusedSimpArgs false

def freshetref08_Place.l0 : Nat → List (S31) → ByteArray → Int → Int → Option (Int)
  | 0, _, _, _, _ => none
  | k + 1, x0, x1, x2, x7 => if x7 < (x0.length : Int) then (if 0 ≤ x7 then ((freshetref08_Ahead.f ((rd_T31 x0 x7).f0) ((rd_T31 x0 x7).f1) ((rd_T31 x0 x7).f2) ((rd_T31 x0 x7).f3) x1 x2).bind fun t261 => (if t261 = true then (freshetref08_Place.l0 k x0 x1 x2 (wrap64 (x7 + 1))) else (some x7))) else (none)) else (some x7)
def freshetref08_Place.f (k : Nat) (l0 : List (S31)) (a1 : ByteArray) (a2 : Int) : Option (Int) := freshetref08_Place.l0 k l0 a1 a2 0
theorem freshetref08_Place.mono_l : ∀ k, (∀ y0 y1 y2 y3, LeO (freshetref08_Place.l0 k y0 y1 y2 y3) (freshetref08_Place.l0 (k + 1) y0 y1 y2 y3))
  | 0 => fun _ _ _ _ r h => by simp [freshetref08_Place.l0] at h
  | k + 1 => by
    have ih0 := freshetref08_Place.mono_l k
    · intro y0 y1 y2 y3
      unfold freshetref08_Place.l0
      repeat' first
      | (with_reducible exact ih0 _ _ _ _)
      | (with_reducible exact LeO.refl _)
      | (with_reducible exact LeO.none _)
      | (with_reducible refine LeO.ite ?_ ?_)
      | (with_reducible refine LeO.bind ?_ (fun _ => ?_))
      | exact ih0 _ _ _ _
      | exact LeO.none _
      | refine LeO.ite ?_ ?_
      | refine LeO.bind ?_ (fun _ => ?_)
theorem freshetref08_Place.mono : ∀ a0 a1 a2 k, LeO (freshetref08_Place.f k a0 a1 a2) (freshetref08_Place.f (k + 1) a0 a1 a2) := by
  intro a0 a1 a2 k
  have ih0 := freshetref08_Place.mono_l k
  unfold freshetref08_Place.f
  repeat' first
      | (with_reducible exact ih0 _ _ _ _)
      | (with_reducible exact LeO.refl _)
      | (with_reducible exact LeO.none _)
      | (with_reducible refine LeO.ite ?_ ?_)
      | (with_reducible refine LeO.bind ?_ (fun _ => ?_))
      | exact ih0 _ _ _ _
      | exact LeO.none _
      | refine LeO.ite ?_ ?_
      | refine LeO.bind ?_ (fun _ => ?_)
set_option maxHeartbeats 8000000 in
set_option maxRecDepth 100000 in
theorem freshetref08_Place.calls (k : Nat) (A0 : Option Addr) (c0 : Nat) (l0 : List (S31)) (a1 : ByteArray) (a2 : Int) (r : Int) (w : World) (hr0 : Kd.C k31 w A0 l0.length l0) (hc0 : l0.length ≤ c0) (h : freshetref08_Place.f k l0 a1 a2 = some r) :
    Calls Try.prog 37 #[.slice A0 l0.length c0, .string a1, .int .u64 a2] w fun e w' => e = .returned (.int .i64 r) ∧ Below w.heap.size w w' := by
  have hu31 := Try.underlying31
  have HR0 := Aside0.mk hr0
  have HC0 := Aside0.mk hc0
  clear hr0 hc0
  have HB := Aside0.mk (Below.refl w.heap.size w)
  have H : (freshetref08_Place.l0 k l0 a1 a2 0) = some r := h
  clear h
  have H' := Aside0.mk H
  clear H
  go_enter Try.func37, Try.ntmps37
  go_wp2
  go_loopg [7] k (fun kq v7 w' => ∃ (x7_1 : Int), v7 = .int .i64 x7_1 ∧ Aside0 (freshetref08_Place.l0 kq l0 a1 a2 x7_1 = some r) ∧ Aside0 (kq ≤ k) ∧ Aside0 (Below w.heap.size w w'))
  case atStart => exact ⟨(0), (by first | rfl | (simp; done) | (simp [*]; done)), H', ⟨Nat.le_refl _⟩, ⟨by repeat (first | (with_reducible first | exact HB.out | apply below_alloc | apply pw_below_drewN | apply below_drew1) | exact HB.out)⟩⟩
  case round =>
    clear H'
    try clear p2
    try clear c3
    obtain ⟨x7_1, rfl, HA, HK1, HB⟩ := hrel
    cases gk with
    | zero => exact absurd HA.out (by simp [freshetref08_Place.l0])
    | succ k1 =>
      have H := HA.out
      clear HA
      simp only [freshetref08_Place.l0] at H
      by_cases c4 : x7_1 < (l0.length : Int)
      · rw [if_pos c4] at H
        have c4b0 : decide (x7_1 < (l0.length : Int)) = true := decide_eq_true c4
        clear c4
        by_cases c5 : 0 ≤ x7_1
        · rw [if_pos c5] at H
          have c5b0 : decide (0 ≤ x7_1) = true := decide_eq_true c5
          clear c5
          replace H := Option.bind_eq_some_iff.mp H
          obtain ⟨t261, A60, H⟩ := H
          replace H : (if t261 = true then (freshetref08_Place.l0 k1 l0 a1 a2 (wrap64 (x7_1 + 1))) else (some x7_1)) = some r := H
          have A6 := Aside0.mk A60
          clear A60
          by_cases c7 : t261 = true
          · subst c7
            have H1 : (freshetref08_Place.l0 k1 l0 a1 a2 (wrap64 (x7_1 + 1))) = some r := by rw [if_pos rfl] at H; exact H
            clear H
            have H := H1
            clear H1
            have H' := Aside0.mk H
            clear H
            have p260 : 0 ≤ (x7_1 : Int) := of_decide_eq_true (by first | (with_reducible assumption) | assumption)
            have q260 : x7_1 < (l0.length : Int) := of_decide_eq_true (by first | (with_reducible assumption) | assumption)
            obtain ⟨ad260, e260, hx260_0, hx260_1, hx260_2, hx260_3⟩ := at_T31 HR0.out x7_1 p260 q260
            cases e260
            replace hx260_0 := (HB.out.cell (World.block_lt_of_cell? w _ hx260_0)).trans hx260_0
            replace hx260_1 := (HB.out.cell (World.block_lt_of_cell? w _ hx260_1)).trans hx260_1
            replace hx260_2 := (HB.out.cell (World.block_lt_of_cell? w _ hx260_2)).trans hx260_2
            replace hx260_3 := (HB.out.cell (World.block_lt_of_cell? w _ hx260_3)).trans hx260_3
            replace p260 := eq_true p260
            replace q260 := eq_true q260
            go_wp2_with (first | (go_at_call 29; (with_reducible refine (freshetref08_Ahead.calls ((rd_T31 l0 x7_1).f0) ((rd_T31 l0 x7_1).f1) ((rd_T31 l0 x7_1).f2) ((rd_T31 l0 x7_1).f3) a1 a2 true _ A6.out).mono ?_); rintro e w8 ⟨rfl, hb⟩; have n0_ := Aside0.mk (below_step (by repeat (first | (with_reducible first | exact HB.out | apply below_alloc | apply pw_below_drewN | apply below_drew1) | exact HB.out)) hb); clear HB; have HB := n0_; clear n0_; (try clear hb); (try clear hb2); (try clear hk); (try clear hi)))
            go_roundg k1
            case measure => have := HK1.out; omega
            case rel => exact ⟨(wrap64 (x7_1 + 1)), (by first | rfl | (simp; done) | (simp [*]; done)), H', ⟨by have := HK1.out; omega⟩, ⟨by repeat (first | (with_reducible first | exact HB.out | apply below_alloc | apply pw_below_drewN | apply below_drew1) | exact HB.out)⟩⟩
          · replace c7 := Bool.eq_false_iff.mpr c7
            subst c7
            have H1 : (some x7_1) = some r := by rw [if_neg (show ¬ (false = true) by decide)] at H; exact H
            clear H
            have H := H1
            clear H1
            obtain rfl := Option.some.inj H
            have p260 : 0 ≤ (x7_1 : Int) := of_decide_eq_true (by first | (with_reducible assumption) | assumption)
            have q260 : x7_1 < (l0.length : Int) := of_decide_eq_true (by first | (with_reducible assumption) | assumption)
            obtain ⟨ad260, e260, hx260_0, hx260_1, hx260_2, hx260_3⟩ := at_T31 HR0.out x7_1 p260 q260
            cases e260
            replace hx260_0 := (HB.out.cell (World.block_lt_of_cell? w _ hx260_0)).trans hx260_0
            replace hx260_1 := (HB.out.cell (World.block_lt_of_cell? w _ hx260_1)).trans hx260_1
            replace hx260_2 := (HB.out.cell (World.block_lt_of_cell? w _ hx260_2)).trans hx260_2
            replace hx260_3 := (HB.out.cell (World.block_lt_of_cell? w _ hx260_3)).trans hx260_3
            replace p260 := eq_true p260
            replace q260 := eq_true q260
            go_wp2_with (first | (go_at_call 29; (with_reducible refine (freshetref08_Ahead.calls ((rd_T31 l0 x7_1).f0) ((rd_T31 l0 x7_1).f1) ((rd_T31 l0 x7_1).f2) ((rd_T31 l0 x7_1).f3) a1 a2 false _ A6.out).mono ?_); rintro e w9 ⟨rfl, hb⟩; have n0_ := Aside0.mk (below_step (by repeat (first | (with_reducible first | exact HB.out | apply below_alloc | apply pw_below_drewN | apply below_drew1) | exact HB.out)) hb); clear HB; have HB := n0_; clear n0_; (try clear hb); (try clear hb2); (try clear hk); (try clear hi)))
            go_ret
            exact ⟨by first | rfl | (simp [errW_none, errW_some] <;> rfl) | (simp [*, errW_none, errW_some] <;> rfl), by repeat (first | (with_reducible first | exact HB.out | apply below_alloc | apply pw_below_drewN | apply below_drew1) | exact HB.out)⟩
        · rw [if_neg c5] at H
          exact absurd H (by simp)
      · rw [if_neg c4] at H
        have c4b0 : decide (x7_1 < (l0.length : Int)) = false := decide_eq_false c4
        clear c4
        obtain rfl := Option.some.inj H
        go_wp2
        go_ret
        exact ⟨by first | rfl | (simp [errW_none, errW_some] <;> rfl) | (simp [*, errW_none, errW_some] <;> rfl), by repeat (first | (with_reducible first | exact HB.out | apply below_alloc | apply pw_below_drewN | apply below_drew1) | exact HB.out)⟩

def freshetref11_Seek.f (k : Nat) (a0 : ByteArray) (a1 : ByteArray) (a2 : Int) : Option ((List (S31)) × Int) := (freshetref11_Rows.f k a0).bind fun bt262 => (if bt262.2 = 0 then ((freshetref08_Place.f k bt262.1 a1 a2).bind fun t266 => (if 0 ≤ t266 then (if t266 ≤ (bt262.1.length : Int) then (some ((bt262.1.drop (t266 : Int).toNat), 0)) else (none)) else (none))) else (some (([] : List (S31)), bt262.2)))
theorem freshetref11_Seek.mono : ∀ a0 a1 a2 k, LeO (freshetref11_Seek.f k a0 a1 a2) (freshetref11_Seek.f (k + 1) a0 a1 a2) := by
  intro a0 a1 a2 k
  unfold freshetref11_Seek.f
  repeat' first
      | (with_reducible exact freshetref08_Place.mono _ _ _ _)
      | (with_reducible exact freshetref11_Rows.mono _ _)
      | (with_reducible exact LeO.refl _)
      | (with_reducible exact LeO.none _)
      | (with_reducible refine LeO.ite ?_ ?_)
      | (with_reducible refine LeO.bind ?_ (fun _ => ?_))
      | exact freshetref08_Place.mono _ _ _ _
      | exact freshetref11_Rows.mono _ _
      | exact LeO.none _
      | refine LeO.ite ?_ ?_
      | refine LeO.bind ?_ (fun _ => ?_)
set_option maxHeartbeats 8000000 in
set_option maxRecDepth 100000 in
theorem freshetref11_Seek.calls (k : Nat) (a0 : ByteArray) (a1 : ByteArray) (a2 : Int) (r1 : List (S31)) (r2 : Int) (w : World) (h : freshetref11_Seek.f k a0 a1 a2 = some (r1, r2)) :
    Calls Try.prog 23 #[.string a0, .string a1, .int .u64 a2] w fun e w' => ∃ v0_ : Value, e = .returned (.tuple #[v0_, .int .i64 r2]) ∧ Kd.Q k31 31 w' w.heap.size (fun _ => True) v0_ r1 ∧ Below w.heap.size w w' := by
  have HB := Aside0.mk (Below.refl w.heap.size w)
  have H : ((freshetref11_Rows.f k a0).bind fun bt262 => (if bt262.2 = 0 then ((freshetref08_Place.f k bt262.1 a1 a2).bind fun t266 => (if 0 ≤ t266 then (if t266 ≤ (bt262.1.length : Int) then (some ((bt262.1.drop (t266 : Int).toNat), 0)) else (none)) else (none))) else (some (([] : List (S31)), bt262.2)))) = some (r1, r2) := h
  clear h
  replace H := Option.bind_eq_some_iff.mp H
  obtain ⟨⟨t262, t263⟩, A40, H⟩ := H
  replace H : (if t263 = 0 then ((freshetref08_Place.f k t262 a1 a2).bind fun t266 => (if 0 ≤ t266 then (if t266 ≤ (t262.length : Int) then (some ((t262.drop (t266 : Int).toNat), 0)) else (none)) else (none))) else (some (([] : List (S31)), t263))) = some (r1, r2) := H
  have A4 := Aside0.mk A40
  clear A40
  by_cases c5 : t263 = 0
  · rw [if_pos c5] at H
    have c5b0 : (t263 == 0) = true := beq_iff_eq.mpr c5
    have c5b1 : (t263 != 0) = false := bne_eq_false_iff_eq.mpr c5
    clear c5
    replace H := Option.bind_eq_some_iff.mp H
    obtain ⟨t266, A60, H⟩ := H
    replace H : (if 0 ≤ t266 then (if t266 ≤ (t262.length : Int) then (some ((t262.drop (t266 : Int).toNat), 0)) else (none)) else (none)) = some (r1, r2) := H
    have A6 := Aside0.mk A60
    clear A60
    by_cases c7 : 0 ≤ t266
    · rw [if_pos c7] at H
      have c7b0 := eq_true c7
      have c7b1 : decide (0 ≤ t266) = true := decide_eq_true c7
      clear c7
      by_cases c8 : t266 ≤ (t262.length : Int)
      · rw [if_pos c8] at H
        have c8b0 := eq_true c8
        have c8b1 : decide (t266 ≤ (t262.length : Int)) = true := decide_eq_true c8
        clear c8
        obtain ⟨y267, hy267⟩ : ∃ y_ : List (S31), y_ = (t262.drop (t266 : Int).toNat) := ⟨_, rfl⟩
        replace H : (some (y267, 0)) = some (r1, r2) := by first | (rw [hy267]; with_reducible exact H) | (have H2_ := (Option.bind_some _ _).symm.trans H; rw [hy267]; with_reducible exact H2_) | (have H2_ := (Option.bind_some _ _).symm.trans H; with_reducible exact H2_) | with_reducible exact H | (rw [hy267]; exact H) | exact H
        have Ny267 := Aside0.mk hy267
        clear hy267
        simp only [Option.some.injEq, Prod.mk.injEq] at H
        obtain ⟨rfl, rfl⟩ := H
        go_enter Try.func23, Try.ntmps23
        go_wp2_with (first | ((with_reducible refine gate_callee (f := 20) rfl ?_); refine goesL_ (some 12) rfl rfl Try.func20 (by kernel_rfl) rfl #[.string a0] rfl (by (try simp only [List.map_toArray, List.map_cons, List.map_nil]); first | done | rfl | (simp only [List.length_drop, List.length_take]; rfl)) ?_; (with_reducible refine (freshetref11_Rows.calls k a0 t262 t263 _ A4.out).mono ?_); rintro e w9 ⟨v264, rfl, ho0, hb⟩; refine ⟨_, rfl, ?_⟩; have n0_ := Aside0.mk (Kd.R_lower ho0 (below_size (by repeat (first | (with_reducible first | exact HB.out | apply below_alloc | apply pw_below_drewN | apply below_drew1) | exact HB.out)))); have n1_ := Aside0.mk (below_step (by repeat (first | (with_reducible first | exact HB.out | apply below_alloc | apply pw_below_drewN | apply below_drew1) | exact HB.out)) hb); clear HB; have HO265 := n0_; have HB := n1_; clear n0_ n1_; (try clear hb); (try clear hb2); (try clear hk); (try clear hi); (try clear ho0); obtain ⟨Ao10, co10, eo10⟩ := Kd.R_slice HO265.out; subst eo10) | ((with_reducible refine gate_callee (f := 37) rfl ?_); refine goesL_ (some 22) rfl rfl Try.func37 (by kernel_rfl) rfl #[.slice Ao10 t262.length co10, .string a1, .int .u64 a2] rfl (by (try simp only [List.map_toArray, List.map_cons, List.map_nil]); first | done | rfl | (simp only [List.length_drop, List.length_take]; rfl)) ?_; (with_reducible refine (freshetref08_Place.calls k _ _ t262 a1 a2 t266 _ ?side1 ?side2 A6.out).mono ?_); (case side1 => repeat (first | exact (Kd.R_reads' HO265.out).2.2 | (with_reducible refine Kd.C_alloc ?_ _) | (with_reducible refine Kd.C_drewN ?_ _) | (with_reducible refine Kd.C_drew ?_))); (case side2 => exact (Kd.R_reads' HO265.out).2.1); rintro e w11 ⟨rfl, hb⟩; refine ⟨_, rfl, ?_⟩; have n0_ := Aside0.mk (Kd.R_below (by (with_reducible repeat (first | apply Kd.R_alloc | apply Kd.R_drewN | apply Kd.R_drew)); exact HO265.out) hb); have n1_ := Aside0.mk (below_step (by repeat (first | (with_reducible first | exact HB.out | apply below_alloc | apply pw_below_drewN | apply below_drew1) | exact HB.out)) hb); clear HO265; clear HB; have HO265 := n0_; have HB := n1_; clear n0_ n1_; (try clear hb); (try clear hb2); (try clear hk); (try clear hi); have q12 : (t266 : Int) ≤ ((t262.length : Int) : Int) := of_decide_eq_true (by first | (with_reducible assumption) | assumption); obtain ⟨i012, hi012, _, hsz12, _⟩ := info_parts info31; have hcut12 := cut_from (P := Try.prog) 22 31 .i64 Try.underlying22 hi012 4 hsz12 Ao10 t262.length co10 t266 (of_decide_eq_true (by first | (with_reducible assumption) | assumption)) q12; have hr12 := Kd.Q_drop (k := (t266 : Int).toNat) (Kd.Q_of_R HO265.out) (by omega); obtain ⟨A12, hA12⟩ : ∃ A1, A1 = (if co10 = (t266 : Int).toNat then Ao10 else (Ao10 : Option Addr).map (·.add ((t266 : Int).toNat * 4))) := ⟨_, rfl⟩; obtain ⟨c12, hc12⟩ : ∃ c1, c1 = co10 - (t266 : Int).toNat := ⟨_, rfl⟩; have hy12 : y267.length = t262.length - (t266 : Int).toNat := (by rw [Ny267.out, List.length_drop]); rw [← Ny267.out] at hr12; rw [← hy12, ← hA12, ← hc12] at hcut12; replace hr12 : Kd.Q k31 31 w11 w.heap.size (fun _ => True) (.slice A12 y267.length c12) y267 := (by rw [hA12, hc12, hy12]; exact hr12); have HE12 : Aside0 ((Value.slice A12 y267.length c12).ownBlock = (.slice Ao10 t262.length co10 : Value).ownBlock) := ⟨by rw [hA12]; split <;> (cases (Ao10 : Option Addr) <;> first | rfl | exact congrArg some (add_block _ _))⟩; clear hy12 hi012 hsz12 HO265 hA12 hc12; have HO269 := Aside0.mk hr12; clear hr12; replace q12 := eq_true q12))
        go_ret2
        exact ⟨_, by first | rfl | (simp [errW_none, errW_some] <;> rfl) | (simp [*, errW_none, errW_some] <;> rfl), by (with_reducible repeat (first | apply Kd.Q_alloc | apply Kd.Q_drewN | apply Kd.Q_drew)); exact HO269.out, by repeat (first | (with_reducible first | exact HB.out | apply below_alloc | apply pw_below_drewN | apply below_drew1) | exact HB.out)⟩
      · rw [if_neg c8] at H
        exact absurd H (by simp)
    · rw [if_neg c7] at H
      exact absurd H (by simp)
  · rw [if_neg c5] at H
    have c5b0 : (t263 == 0) = false := beq_eq_false_iff_ne.mpr c5
    have c5b1 : (t263 != 0) = true := bne_iff_ne.mpr c5
    simp only [Option.some.injEq, Prod.mk.injEq] at H
    obtain ⟨rfl, rfl⟩ := H
    go_enter Try.func23, Try.ntmps23
    go_wp2_with (first | ((with_reducible refine gate_callee (f := 20) rfl ?_); refine goesL_ (some 12) rfl rfl Try.func20 (by kernel_rfl) rfl #[.string a0] rfl (by (try simp only [List.map_toArray, List.map_cons, List.map_nil]); first | done | rfl | (simp only [List.length_drop, List.length_take]; rfl)) ?_; (with_reducible refine (freshetref11_Rows.calls k a0 t262 t263 _ A4.out).mono ?_); rintro e w13 ⟨v264, rfl, ho0, hb⟩; refine ⟨_, rfl, ?_⟩; have n0_ := Aside0.mk (Kd.R_lower ho0 (below_size (by repeat (first | (with_reducible first | exact HB.out | apply below_alloc | apply pw_below_drewN | apply below_drew1) | exact HB.out)))); have n1_ := Aside0.mk (below_step (by repeat (first | (with_reducible first | exact HB.out | apply below_alloc | apply pw_below_drewN | apply below_drew1) | exact HB.out)) hb); clear HB; have HO265 := n0_; have HB := n1_; clear n0_ n1_; (try clear hb); (try clear hb2); (try clear hk); (try clear hi); (try clear ho0)))
    go_ret2
    exact ⟨_, by first | rfl | (simp [errW_none, errW_some] <;> rfl) | (simp [*, errW_none, errW_some] <;> rfl), Kd.Q_of_R (by first | exact Kd.R_nil _ _ _ _ _ | exact Kd.N_nil _ _ _ _ _ | exact Kd.V_nil _ _ _ _ _ | exact Kd.Q_nil _ _ _ _ _ | exact Kd.S_nil _ _ _ _ _), by repeat (first | (with_reducible first | exact HB.out | apply below_alloc | apply pw_below_drewN | apply below_drew1) | exact HB.out)⟩

def freshetlaw11_BlockSeek.f (k : Nat) (a0 : ByteArray) (a1 : ByteArray) (a2 : Int) : Option (Bool) := if (a0.size : Int) > 4096 then ((freshetlaw11_awake.f k).bind fun t270 => (some t270)) else ((block_Seek.f a0 a1 a2).bind fun bt271 => ((freshetref11_Seek.f k a0 a1 a2).bind fun bt275 => ((freshetref06_SameRows.f k bt271.1 bt275.1).bind fun t279 => (if t279 = true then (if bt271.2 = bt275.2 then ((freshetlaw11_awake.f k).bind fun t280 => (some t280)) else (some false)) else (some false)))))
theorem freshetlaw11_BlockSeek.mono : ∀ a0 a1 a2 k, LeO (freshetlaw11_BlockSeek.f k a0 a1 a2) (freshetlaw11_BlockSeek.f (k + 1) a0 a1 a2) := by
  intro a0 a1 a2 k
  unfold freshetlaw11_BlockSeek.f
  repeat' first
      | (with_reducible exact freshetlaw11_awake.mono _)
      | (with_reducible exact freshetref06_SameRows.mono _ _ _)
      | (with_reducible exact freshetref11_Seek.mono _ _ _ _)
      | (with_reducible exact LeO.refl _)
      | (with_reducible exact LeO.none _)
      | (with_reducible refine LeO.ite ?_ ?_)
      | (with_reducible refine LeO.bind ?_ (fun _ => ?_))
      | exact freshetlaw11_awake.mono _
      | exact freshetref06_SameRows.mono _ _ _
      | exact freshetref11_Seek.mono _ _ _ _
      | exact LeO.none _
      | refine LeO.ite ?_ ?_
      | refine LeO.bind ?_ (fun _ => ?_)
set_option maxHeartbeats 8000000 in
set_option maxRecDepth 100000 in
theorem freshetlaw11_BlockSeek.calls (k : Nat) (a0 : ByteArray) (a1 : ByteArray) (a2 : Int) (r : Bool) (w : World) (h : freshetlaw11_BlockSeek.f k a0 a1 a2 = some r) :
    Calls Try.prog 7 #[.string a0, .string a1, .int .u64 a2] w fun e w' => e = .returned (.bool r) ∧ Below w.heap.size w w' := by
  have HB := Aside0.mk (Below.refl w.heap.size w)
  have H : (if (a0.size : Int) > 4096 then ((freshetlaw11_awake.f k).bind fun t270 => (some t270)) else ((block_Seek.f a0 a1 a2).bind fun bt271 => ((freshetref11_Seek.f k a0 a1 a2).bind fun bt275 => ((freshetref06_SameRows.f k bt271.1 bt275.1).bind fun t279 => (if t279 = true then (if bt271.2 = bt275.2 then ((freshetlaw11_awake.f k).bind fun t280 => (some t280)) else (some false)) else (some false)))))) = some r := h
  clear h
  by_cases c4 : (a0.size : Int) > 4096
  · rw [if_pos c4] at H
    have c4b0 : decide (4096 < (a0.size : Int)) = true := decide_eq_true c4
    have c4b1 : decide (4096 < a0.size) = true := decide_eq_true (by omega)
    clear c4
    replace H := Option.bind_eq_some_iff.mp H
    obtain ⟨t270, A50, H⟩ := H
    replace H : (some t270) = some r := H
    have A5 := Aside0.mk A50
    clear A50
    obtain rfl := Option.some.inj H
    go_enter Try.func7, Try.ntmps7
    go_wp2_with (first | ((with_reducible refine gate_callee (f := 10) rfl ?_); refine goesL_ (some 14) rfl rfl Try.func10 (by kernel_rfl) rfl #[] rfl (by (try simp only [List.map_toArray, List.map_cons, List.map_nil]); first | done | rfl | (simp only [List.length_drop, List.length_take]; rfl)) ?_; (with_reducible refine (freshetlaw11_awake.calls k  t270 _ A5.out).mono ?_); rintro e w6 ⟨rfl, hb⟩; refine ⟨_, rfl, ?_⟩; have n0_ := Aside0.mk (below_step (by repeat (first | (with_reducible first | exact HB.out | apply below_alloc | apply pw_below_drewN | apply below_drew1) | exact HB.out)) hb); clear HB; have HB := n0_; clear n0_; (try clear hb); (try clear hb2); (try clear hk); (try clear hi)))
    go_ret
    exact ⟨by first | rfl | (simp [errW_none, errW_some] <;> rfl) | (simp [*, errW_none, errW_some] <;> rfl), by repeat (first | (with_reducible first | exact HB.out | apply below_alloc | apply pw_below_drewN | apply below_drew1) | exact HB.out)⟩
  · rw [if_neg c4] at H
    have c4b0 : decide (4096 < (a0.size : Int)) = false := decide_eq_false c4
    have c4b1 : decide (4096 < a0.size) = false := decide_eq_false (by omega)
    clear c4
    replace H := Option.bind_eq_some_iff.mp H
    obtain ⟨⟨t271, t272⟩, A70, H⟩ := H
    replace H : ((freshetref11_Seek.f k a0 a1 a2).bind fun bt275 => ((freshetref06_SameRows.f k t271 bt275.1).bind fun t279 => (if t279 = true then (if t272 = bt275.2 then ((freshetlaw11_awake.f k).bind fun t280 => (some t280)) else (some false)) else (some false)))) = some r := H
    have A7 := Aside0.mk A70
    clear A70
    replace H := Option.bind_eq_some_iff.mp H
    obtain ⟨⟨t275, t276⟩, A80, H⟩ := H
    replace H : ((freshetref06_SameRows.f k t271 t275).bind fun t279 => (if t279 = true then (if t272 = t276 then ((freshetlaw11_awake.f k).bind fun t280 => (some t280)) else (some false)) else (some false))) = some r := H
    have A8 := Aside0.mk A80
    clear A80
    replace H := Option.bind_eq_some_iff.mp H
    obtain ⟨t279, A90, H⟩ := H
    replace H : (if t279 = true then (if t272 = t276 then ((freshetlaw11_awake.f k).bind fun t280 => (some t280)) else (some false)) else (some false)) = some r := H
    have A9 := Aside0.mk A90
    clear A90
    by_cases c10 : t279 = true
    · subst c10
      have H1 : (if t272 = t276 then ((freshetlaw11_awake.f k).bind fun t280 => (some t280)) else (some false)) = some r := by rw [if_pos rfl] at H; exact H
      clear H
      have H := H1
      clear H1
      by_cases c11 : t272 = t276
      · rw [if_pos c11] at H
        have c11b0 : (t272 == t276) = true := beq_iff_eq.mpr c11
        have c11b1 : (t272 != t276) = false := bne_eq_false_iff_eq.mpr c11
        clear c11
        replace H := Option.bind_eq_some_iff.mp H
        obtain ⟨t280, A120, H⟩ := H
        replace H : (some t280) = some r := H
        have A12 := Aside0.mk A120
        clear A120
        obtain rfl := Option.some.inj H
        go_enter Try.func7, Try.ntmps7
        go_wp2_with (first | ((with_reducible refine gate_callee (f := 22) rfl ?_); refine goesL_ (some 19) rfl rfl Try.func22 (by kernel_rfl) rfl #[.string a0, .string a1, .int .u64 a2] rfl (by (try simp only [List.map_toArray, List.map_cons, List.map_nil]); first | done | rfl | (simp only [List.length_drop, List.length_take]; rfl)) ?_; (with_reducible refine (block_Seek.calls a0 a1 a2 t271 t272 _ A7.out).mono ?_); rintro e w13 ⟨v273, rfl, ho0, hb⟩; refine ⟨_, rfl, ?_⟩; have n0_ := Aside0.mk (Kd.R_lower ho0 (below_size (by repeat (first | (with_reducible first | exact HB.out | apply below_alloc | apply pw_below_drewN | apply below_drew1) | exact HB.out)))); have n1_ := Aside0.mk (below_step (by repeat (first | (with_reducible first | exact HB.out | apply below_alloc | apply pw_below_drewN | apply below_drew1) | exact HB.out)) hb); clear HB; have HO274 := n0_; have HB := n1_; clear n0_ n1_; (try clear hb); (try clear hb2); (try clear hk); (try clear hi); (try clear ho0)) | ((with_reducible refine gate_callee (f := 23) rfl ?_); refine goesL_ (some 26) rfl rfl Try.func23 (by kernel_rfl) rfl #[.string a0, .string a1, .int .u64 a2] rfl (by (try simp only [List.map_toArray, List.map_cons, List.map_nil]); first | done | rfl | (simp only [List.length_drop, List.length_take]; rfl)) ?_; (with_reducible refine (freshetref11_Seek.calls k a0 a1 a2 t275 t276 _ A8.out).mono ?_); rintro e w14 ⟨v277, rfl, ho0, hb⟩; refine ⟨_, rfl, ?_⟩; have n0_ := Aside0.mk (Kd.R_elder' (by (with_reducible repeat (first | apply Kd.R_alloc | apply Kd.R_drewN | apply Kd.R_drew)); exact HO274.out) (Kd.Q_base ho0) hb); have n1_ := Aside0.mk (Kd.Q_lower (Kd.Q_new' ho0 (Kd.R_lt (by (with_reducible repeat (first | apply Kd.R_alloc | apply Kd.R_drewN | apply Kd.R_drew)); exact HO274.out))) (below_size (by repeat (first | (with_reducible first | exact HB.out | apply below_alloc | apply pw_below_drewN | apply below_drew1) | exact HB.out)))); have n2_ := Aside0.mk (below_step (by repeat (first | (with_reducible first | exact HB.out | apply below_alloc | apply pw_below_drewN | apply below_drew1) | exact HB.out)) hb); clear HO274; clear HB; have HO274 := n0_; have HO278 := n1_; have HB := n2_; clear n0_ n1_ n2_; (try clear hb); (try clear hb2); (try clear hk); (try clear hi); (try clear ho0); obtain ⟨Ao15, co15, eo15⟩ := Kd.R_slice HO274.out; subst eo15; obtain ⟨Ao16, co16, eo16, _⟩ := Kd.Q_slice HO278.out; subst eo16) | ((with_reducible refine gate_callee (f := 21) rfl ?_); refine goesL_ (some 31) rfl rfl Try.func21 (by kernel_rfl) rfl #[.slice Ao15 t271.length co15, .slice Ao16 t275.length co16] rfl (by (try simp only [List.map_toArray, List.map_cons, List.map_nil]); first | done | rfl | (simp only [List.length_drop, List.length_take]; rfl)) ?_; (with_reducible refine (freshetref06_SameRows.calls k _ _ t271 _ _ t275 true _ ?side1 ?side2 ?side3 ?side4 A9.out).mono ?_); (case side1 => repeat (first | exact (Kd.R_reads' HO274.out).2.2 | (with_reducible refine Kd.C_alloc ?_ _) | (with_reducible refine Kd.C_drewN ?_ _) | (with_reducible refine Kd.C_drew ?_))); (case side2 => exact (Kd.R_reads' HO274.out).2.1); (case side3 => repeat (first | exact (Kd.Q_reads' HO278.out).2.2 | (with_reducible refine Kd.C_alloc ?_ _) | (with_reducible refine Kd.C_drewN ?_ _) | (with_reducible refine Kd.C_drew ?_))); (case side4 => exact (Kd.Q_reads' HO278.out).2.1); rintro e w' ⟨rfl, ⟨nd, rfl⟩⟩; refine ⟨_, rfl, ?_⟩) | (go_at_call 10; (with_reducible refine (freshetlaw11_awake.calls k  t280 _ A12.out).mono ?_); rintro e w17 ⟨rfl, hb⟩; have n0_ := Aside0.mk (Kd.R_below (by (with_reducible repeat (first | apply Kd.R_alloc | apply Kd.R_drewN | apply Kd.R_drew)); exact HO274.out) hb); have n1_ := Aside0.mk (Kd.Q_below (by (with_reducible repeat (first | apply Kd.Q_alloc | apply Kd.Q_drewN | apply Kd.Q_drew)); exact HO278.out) hb); have n2_ := Aside0.mk (below_step (by repeat (first | (with_reducible first | exact HB.out | apply below_alloc | apply pw_below_drewN | apply below_drew1) | exact HB.out)) hb); clear HO274; clear HO278; clear HB; have HO274 := n0_; have HO278 := n1_; have HB := n2_; clear n0_ n1_ n2_; (try clear hb); (try clear hb2); (try clear hk); (try clear hi)))
        go_ret
        exact ⟨by first | rfl | (simp [errW_none, errW_some] <;> rfl) | (simp [*, errW_none, errW_some] <;> rfl), by repeat (first | (with_reducible first | exact HB.out | apply below_alloc | apply pw_below_drewN | apply below_drew1) | exact HB.out)⟩
      · rw [if_neg c11] at H
        have c11b0 : (t272 == t276) = false := beq_eq_false_iff_ne.mpr c11
        have c11b1 : (t272 != t276) = true := bne_iff_ne.mpr c11
        obtain rfl := Option.some.inj H
        go_enter Try.func7, Try.ntmps7
        go_wp2_with (first | ((with_reducible refine gate_callee (f := 22) rfl ?_); refine goesL_ (some 19) rfl rfl Try.func22 (by kernel_rfl) rfl #[.string a0, .string a1, .int .u64 a2] rfl (by (try simp only [List.map_toArray, List.map_cons, List.map_nil]); first | done | rfl | (simp only [List.length_drop, List.length_take]; rfl)) ?_; (with_reducible refine (block_Seek.calls a0 a1 a2 t271 t272 _ A7.out).mono ?_); rintro e w18 ⟨v273, rfl, ho0, hb⟩; refine ⟨_, rfl, ?_⟩; have n0_ := Aside0.mk (Kd.R_lower ho0 (below_size (by repeat (first | (with_reducible first | exact HB.out | apply below_alloc | apply pw_below_drewN | apply below_drew1) | exact HB.out)))); have n1_ := Aside0.mk (below_step (by repeat (first | (with_reducible first | exact HB.out | apply below_alloc | apply pw_below_drewN | apply below_drew1) | exact HB.out)) hb); clear HB; have HO274 := n0_; have HB := n1_; clear n0_ n1_; (try clear hb); (try clear hb2); (try clear hk); (try clear hi); (try clear ho0)) | ((with_reducible refine gate_callee (f := 23) rfl ?_); refine goesL_ (some 26) rfl rfl Try.func23 (by kernel_rfl) rfl #[.string a0, .string a1, .int .u64 a2] rfl (by (try simp only [List.map_toArray, List.map_cons, List.map_nil]); first | done | rfl | (simp only [List.length_drop, List.length_take]; rfl)) ?_; (with_reducible refine (freshetref11_Seek.calls k a0 a1 a2 t275 t276 _ A8.out).mono ?_); rintro e w19 ⟨v277, rfl, ho0, hb⟩; refine ⟨_, rfl, ?_⟩; have n0_ := Aside0.mk (Kd.R_elder' (by (with_reducible repeat (first | apply Kd.R_alloc | apply Kd.R_drewN | apply Kd.R_drew)); exact HO274.out) (Kd.Q_base ho0) hb); have n1_ := Aside0.mk (Kd.Q_lower (Kd.Q_new' ho0 (Kd.R_lt (by (with_reducible repeat (first | apply Kd.R_alloc | apply Kd.R_drewN | apply Kd.R_drew)); exact HO274.out))) (below_size (by repeat (first | (with_reducible first | exact HB.out | apply below_alloc | apply pw_below_drewN | apply below_drew1) | exact HB.out)))); have n2_ := Aside0.mk (below_step (by repeat (first | (with_reducible first | exact HB.out | apply below_alloc | apply pw_below_drewN | apply below_drew1) | exact HB.out)) hb); clear HO274; clear HB; have HO274 := n0_; have HO278 := n1_; have HB := n2_; clear n0_ n1_ n2_; (try clear hb); (try clear hb2); (try clear hk); (try clear hi); (try clear ho0); obtain ⟨Ao20, co20, eo20⟩ := Kd.R_slice HO274.out; subst eo20; obtain ⟨Ao21, co21, eo21, _⟩ := Kd.Q_slice HO278.out; subst eo21) | ((with_reducible refine gate_callee (f := 21) rfl ?_); refine goesL_ (some 31) rfl rfl Try.func21 (by kernel_rfl) rfl #[.slice Ao20 t271.length co20, .slice Ao21 t275.length co21] rfl (by (try simp only [List.map_toArray, List.map_cons, List.map_nil]); first | done | rfl | (simp only [List.length_drop, List.length_take]; rfl)) ?_; (with_reducible refine (freshetref06_SameRows.calls k _ _ t271 _ _ t275 true _ ?side1 ?side2 ?side3 ?side4 A9.out).mono ?_); (case side1 => repeat (first | exact (Kd.R_reads' HO274.out).2.2 | (with_reducible refine Kd.C_alloc ?_ _) | (with_reducible refine Kd.C_drewN ?_ _) | (with_reducible refine Kd.C_drew ?_))); (case side2 => exact (Kd.R_reads' HO274.out).2.1); (case side3 => repeat (first | exact (Kd.Q_reads' HO278.out).2.2 | (with_reducible refine Kd.C_alloc ?_ _) | (with_reducible refine Kd.C_drewN ?_ _) | (with_reducible refine Kd.C_drew ?_))); (case side4 => exact (Kd.Q_reads' HO278.out).2.1); rintro e w' ⟨rfl, ⟨nd, rfl⟩⟩; refine ⟨_, rfl, ?_⟩))
        go_ret
        exact ⟨by first | rfl | (simp [errW_none, errW_some] <;> rfl) | (simp [*, errW_none, errW_some] <;> rfl), by repeat (first | (with_reducible first | exact HB.out | apply below_alloc | apply pw_below_drewN | apply below_drew1) | exact HB.out)⟩
    · replace c10 := Bool.eq_false_iff.mpr c10
      subst c10
      have H1 : (some false) = some r := by rw [if_neg (show ¬ (false = true) by decide)] at H; exact H
      clear H
      have H := H1
      clear H1
      obtain rfl := Option.some.inj H
      go_enter Try.func7, Try.ntmps7
      go_wp2_with (first | ((with_reducible refine gate_callee (f := 22) rfl ?_); refine goesL_ (some 19) rfl rfl Try.func22 (by kernel_rfl) rfl #[.string a0, .string a1, .int .u64 a2] rfl (by (try simp only [List.map_toArray, List.map_cons, List.map_nil]); first | done | rfl | (simp only [List.length_drop, List.length_take]; rfl)) ?_; (with_reducible refine (block_Seek.calls a0 a1 a2 t271 t272 _ A7.out).mono ?_); rintro e w22 ⟨v273, rfl, ho0, hb⟩; refine ⟨_, rfl, ?_⟩; have n0_ := Aside0.mk (Kd.R_lower ho0 (below_size (by repeat (first | (with_reducible first | exact HB.out | apply below_alloc | apply pw_below_drewN | apply below_drew1) | exact HB.out)))); have n1_ := Aside0.mk (below_step (by repeat (first | (with_reducible first | exact HB.out | apply below_alloc | apply pw_below_drewN | apply below_drew1) | exact HB.out)) hb); clear HB; have HO274 := n0_; have HB := n1_; clear n0_ n1_; (try clear hb); (try clear hb2); (try clear hk); (try clear hi); (try clear ho0)) | ((with_reducible refine gate_callee (f := 23) rfl ?_); refine goesL_ (some 26) rfl rfl Try.func23 (by kernel_rfl) rfl #[.string a0, .string a1, .int .u64 a2] rfl (by (try simp only [List.map_toArray, List.map_cons, List.map_nil]); first | done | rfl | (simp only [List.length_drop, List.length_take]; rfl)) ?_; (with_reducible refine (freshetref11_Seek.calls k a0 a1 a2 t275 t276 _ A8.out).mono ?_); rintro e w23 ⟨v277, rfl, ho0, hb⟩; refine ⟨_, rfl, ?_⟩; have n0_ := Aside0.mk (Kd.R_elder' (by (with_reducible repeat (first | apply Kd.R_alloc | apply Kd.R_drewN | apply Kd.R_drew)); exact HO274.out) (Kd.Q_base ho0) hb); have n1_ := Aside0.mk (Kd.Q_lower (Kd.Q_new' ho0 (Kd.R_lt (by (with_reducible repeat (first | apply Kd.R_alloc | apply Kd.R_drewN | apply Kd.R_drew)); exact HO274.out))) (below_size (by repeat (first | (with_reducible first | exact HB.out | apply below_alloc | apply pw_below_drewN | apply below_drew1) | exact HB.out)))); have n2_ := Aside0.mk (below_step (by repeat (first | (with_reducible first | exact HB.out | apply below_alloc | apply pw_below_drewN | apply below_drew1) | exact HB.out)) hb); clear HO274; clear HB; have HO274 := n0_; have HO278 := n1_; have HB := n2_; clear n0_ n1_ n2_; (try clear hb); (try clear hb2); (try clear hk); (try clear hi); (try clear ho0); obtain ⟨Ao24, co24, eo24⟩ := Kd.R_slice HO274.out; subst eo24; obtain ⟨Ao25, co25, eo25, _⟩ := Kd.Q_slice HO278.out; subst eo25) | ((with_reducible refine gate_callee (f := 21) rfl ?_); refine goesL_ (some 31) rfl rfl Try.func21 (by kernel_rfl) rfl #[.slice Ao24 t271.length co24, .slice Ao25 t275.length co25] rfl (by (try simp only [List.map_toArray, List.map_cons, List.map_nil]); first | done | rfl | (simp only [List.length_drop, List.length_take]; rfl)) ?_; (with_reducible refine (freshetref06_SameRows.calls k _ _ t271 _ _ t275 false _ ?side1 ?side2 ?side3 ?side4 A9.out).mono ?_); (case side1 => repeat (first | exact (Kd.R_reads' HO274.out).2.2 | (with_reducible refine Kd.C_alloc ?_ _) | (with_reducible refine Kd.C_drewN ?_ _) | (with_reducible refine Kd.C_drew ?_))); (case side2 => exact (Kd.R_reads' HO274.out).2.1); (case side3 => repeat (first | exact (Kd.Q_reads' HO278.out).2.2 | (with_reducible refine Kd.C_alloc ?_ _) | (with_reducible refine Kd.C_drewN ?_ _) | (with_reducible refine Kd.C_drew ?_))); (case side4 => exact (Kd.Q_reads' HO278.out).2.1); rintro e w' ⟨rfl, ⟨nd, rfl⟩⟩; refine ⟨_, rfl, ?_⟩))
      go_ret
      exact ⟨by first | rfl | (simp [errW_none, errW_some] <;> rfl) | (simp [*, errW_none, errW_some] <;> rfl), by repeat (first | (with_reducible first | exact HB.out | apply below_alloc | apply pw_below_drewN | apply below_drew1) | exact HB.out)⟩

/-- THE ONE PURE STATEMENT of freshetlaw11_BlockSeek: yours. -/
def freshetlaw11_BlockSeek.Pure : Prop := ∀ (a0 : ByteArray) (a1 : ByteArray) (a2 : Int), a0.size ≤ 140737488351232 → a1.size ≤ 140737488351232 → (Lit.int .u64 a2).wf = true → ∃ k, freshetlaw11_BlockSeek.f k a0 a1 a2 = some true
theorem freshetlaw11_BlockSeek.walk (P : freshetlaw11_BlockSeek.Pure) (a0 : ByteArray) (a1 : ByteArray) (a2 : Int) (w : World) (w0 : a0.size ≤ 140737488351232) (w1 : a1.size ≤ 140737488351232) (w2 : (Lit.int .u64 a2).wf = true) :
    Calls Try.prog 7 #[.string a0, .string a1, .int .u64 a2] w fun e w' => e = .returned (.bool true) ∧ Below w.heap.size w w' := by
  obtain ⟨k, h⟩ := P a0 a1 a2 w0 w1 w2
  refine (freshetlaw11_BlockSeek.calls k a0 a1 a2 true w h).mono ?_
  rintro e w' ⟨rfl, hd⟩
  exact ⟨rfl, hd⟩

end Go.Proofs.Ytjgbcaemcohmpaa.Print
-- RefRows
namespace Go.Proofs.Ytjgbcaemcohmpaa.Block
open Go.RowKit Aid Txt Print Go.Proofs.YtjgbcaemcohmpaaW.PrintWords
theorem refFour_eq (s : ByteArray) (h : 4 ≤ s.size) : freshetref11_Four.f s = some ((PBlock.unfour (L s) : Nat) : Int) := by
  unfold freshetref11_Four.f
  rw [if_pos (by omega), if_pos (by omega), if_pos (by omega), if_pos (by omega)]
  have b0 := bt_getD s 0
  have b1 := bt_getD s 1
  have b2 := bt_getD s 2
  have b3 := bt_getD s 3
  rw [b0, b1, b2, b3]
  unfold PBlock.unfour
  rw [show (0 : Int).toNat = 0 from rfl, show (1 : Int).toNat = 1 from rfl, show (2 : Int).toNat = 2 from rfl, show (3 : Int).toNat = 3 from rfl]
  have l0 : ((L s).getD 0 0).toNat < 256 := UInt8.toNat_lt _
  have l1 : ((L s).getD 1 0).toNat < 256 := UInt8.toNat_lt _
  have l2 : ((L s).getD 2 0).toNat < 256 := UInt8.toNat_lt _
  have l3 : ((L s).getD 3 0).toNat < 256 := UInt8.toNat_lt _
  generalize ((L s).getD 0 0).toNat = a at *
  generalize ((L s).getD 1 0).toNat = b at *
  generalize ((L s).getD 2 0).toNat = c at *
  generalize ((L s).getD 3 0).toNat = d at *
  clear b0 b1 b2 b3
  have w : ∀ x : Int, -9223372036854775808 ≤ x → x ≤ 9223372036854775807 → wrap64 x = x := fun x h0 h1 => wrap_id h0 h1
  rw [w (a : Int) (by omega) (by omega), w (b : Int) (by omega) (by omega), w (256 * (b : Int)) (by omega) (by omega), w ((a : Int) + 256 * (b : Int)) (by omega) (by omega), w (c : Int) (by omega) (by omega), w (65536 * (c : Int)) (by omega) (by omega),
    w ((a : Int) + 256 * (b : Int) + 65536 * (c : Int)) (by omega) (by omega), w (d : Int) (by omega) (by omega), w (16777216 * (d : Int)) (by omega) (by omega), w _ (by omega) (by omega)]
  congr 1
theorem refFour_at (s : ByteArray) (i : Nat) (h : i + 4 ≤ s.size) : freshetref11_Four.f (s.extract i s.size) = some ((PBlock.unfour ((L s).drop i) : Nat) : Int) := by
  rw [refFour_eq _ (by rw [ByteArray.size_extract]; omega), L_drop]
theorem refrows_end (s b : ByteArray) (h8 : 8 ≤ s.size) (hs : s.size ≤ 65536) (xs : List S31) (last : ByteArray) (hx : ∀ x ∈ xs, 0 ≤ x.f1 ∧ x.f1 < 18446744073709551616) (hn : xs.length ≤ 1024) :
    Ev (fun k => freshetref11_Rows.l0 k s b xs last (b.size : Int)) (tailOf (L s) xs (some [])) := by
  have e1 : wrap64 ((s.size : Int) - 4) = ((s.size - 4 : Nat) : Int) := by rw [wrap_id (by omega) (by omega)]; omega
  have hb := refbuild_ev xs (fun x h => ⟨(hx x h).1, (hx x h).2⟩) (by omega) ((PBlock.unfour ((L s).drop (s.size - 4)) : Nat) : Int)
  have hw := refFour_at s (s.size - 4) (by omega)
  have t1 : ¬ (b.size : Int) < (b.size : Int) := by omega
  have t2 : (0 : Int) ≤ ((s.size - 4 : Nat) : Int) := by omega
  have t3 : ((s.size - 4 : Nat) : Int) ≤ (s.size : Int) := by omega
  refine Ev.step (f := fun k => (freshetref11_Build.f k xs ((PBlock.unfour ((L s).drop (s.size - 4)) : Nat) : Int)).bind fun bt237 => (if bt237.2 = 0 then (if bt237.1.toList = s.toList then (some (xs, 0)) else (some (([] : List S31), 7))) else (some (([] : List S31), 7)))) (fun k => ?_) ?_
  · simp only [freshetref11_Rows.l0]
    rw [if_neg t1, e1, if_pos t2, if_pos t3, Int.toNat_natCast, hw, Option.bind_some]
  · refine Ev.bind hb ?_
    have ht : tailOf (L s) xs (some []) = if PBlock.build (xs.map rowS) ((PBlock.unfour ((L s).drop (s.size - 4)) : Nat) : Int) = (L s, 0) then (xs, 0) else ([], 7) := by
      unfold tailOf; simp only [L_length, List.map_nil, List.append_nil]
    rw [ht]
    generalize PBlock.build (xs.map rowS) ((PBlock.unfour ((L s).drop (s.size - 4)) : Nat) : Int) = r
    obtain ⟨y, e⟩ := r
    dsimp only
    by_cases he : e = 0
    · subst he
      refine Ev.congr (fun k => if_pos (show ((0 : Nat) : Int) = 0 from rfl)) ?_
      by_cases hy : y = L s
      · have hR : (if (y, (0 : Nat)) = (L s, 0) then (xs, (0 : Int)) else ([], 7)) = (xs, 0) := if_pos (by rw [hy])
        have hS : (B y).toList = s.toList := by rw [hy, B_L]
        rw [hR]
        exact Ev.congr (fun k => if_pos hS) (Ev.now _)
      · have hR : (if (y, (0 : Nat)) = (L s, 0) then (xs, (0 : Int)) else ([], 7)) = ([], 7) := if_neg (fun h => hy (Prod.mk.inj h).1)
        have hS : ¬ (B y).toList = s.toList := fun h => hy (by rw [L_toList, L_toList, L_B] at h; exact h)
        rw [hR]
        exact Ev.congr (fun k => if_neg hS) (Ev.now _)
    · have hR : (if (y, e) = (L s, 0) then (xs, (0 : Int)) else ([], 7)) = ([], 7) := if_neg (fun h => he (Prod.mk.inj h).2)
      have hS : ¬ ((e : Nat) : Int) = 0 := by omega
      rw [hR]
      exact Ev.congr (fun k => if_neg hS) (Ev.now _)
theorem refrows_loop (s b : ByteArray) (h8 : 8 ≤ s.size) (hs : s.size ≤ 65536) (hb : b.size ≤ 65536) (d : Nat) : ∀ (at_ fuel : Nat) (xs : List S31) (last : ByteArray), b.size - at_ ≤ d → at_ ≤ b.size → b.size - at_ < fuel → (∀ x ∈ xs, 0 ≤ x.f1 ∧ x.f1 < 18446744073709551616) →
    xs.length ≤ 1024 → last.size ≤ 520 * xs.length → Ev (fun k => freshetref11_Rows.l0 k s b xs last (at_ : Int)) (tailOf (L s) xs (PBlock.decode fuel ((L b).drop at_) (L last) xs.length)) := by
  induction d with
  | zero =>
    intro at_ fuel xs last hd ha hf hx hn hl
    obtain ⟨fuel, rfl⟩ : ∃ m, fuel = m + 1 := ⟨fuel - 1, by omega⟩
    obtain rfl : at_ = b.size := by omega
    rw [show (L b).drop b.size = [] from List.drop_eq_nil_of_le (by rw [L_length]; omega), PBlock.decode_end]
    exact refrows_end s b h8 hs xs last hx hn
  | succ d ih =>
    intro at_ fuel xs last hd ha hf hx hn hl
    obtain ⟨fuel, rfl⟩ : ∃ m, fuel = m + 1 := ⟨fuel - 1, by omega⟩
    by_cases h0 : at_ = b.size
    · subst h0
      rw [show (L b).drop b.size = [] from List.drop_eq_nil_of_le (by rw [L_length]; omega), PBlock.decode_end]
      exact refrows_end s b h8 hs xs last hx hn
    have hlt : at_ < b.size := by omega
    have hne : (L b).drop at_ ≠ [] := by
      intro e
      have := congrArg List.length e
      rw [List.length_drop, L_length, List.length_nil] at this; omega
    have hr := freshetref11_read.eq (b.extract at_ b.size) last ⟨by rw [ByteArray.size_extract]; omega, by omega⟩
    rw [L_drop] at hr
    have hgo : ∀ (R : List S31 × Int) (f : Nat → Option (List S31 × Int)), (∀ k, (if (readN (PBlock.read ((L b).drop at_) (L last)) : Int) = 0 then (some (([] : List S31), (7 : Int))) else (if (xs.length : Int) = 1024 then (some (([] : List S31), 7)) else (if xs.length < 2932031007402 then (freshetref11_Rows.l0 k s b (xs ++ [readR (PBlock.read ((L b).drop at_) (L last))]) (readR (PBlock.read ((L b).drop at_) (L last))).f0 (wrap64 ((at_ : Int) + (readN (PBlock.read ((L b).drop at_) (L last)) : Int)))) else none))) = f k) → Ev f R → Ev (fun k => freshetref11_Rows.l0 k s b xs last (at_ : Int)) R := by
      intro R f hk hE
      refine Ev.step (fun k => ?_) hE
      simp only [freshetref11_Rows.l0]
      rw [if_pos (by omega), if_pos (by omega), if_pos (by omega), Int.toNat_natCast, hr, Option.bind_some]
      exact hk k
    cases hrd : PBlock.read ((L b).drop at_) (L last) with
    | none =>
      rw [PBlock.decode_bad hne hrd]
      refine hgo _ (fun _ => some ([], 7)) (fun k => ?_) (Ev.now _)
      rw [hrd]
      rw [if_pos (show ((readN none : Nat) : Int) = 0 from rfl)]
    | some x =>
      obtain ⟨r, n⟩ := x
      have hbd := PBlock.read_bounds hrd
      rw [List.length_drop, L_length, L_length] at hbd
      by_cases h1 : xs.length = 1024
      · rw [PBlock.decode_many hne hrd h1]
        refine hgo _ (fun _ => some ([], 7)) (fun k => ?_) (Ev.now _)
        rw [hrd]
        rw [if_neg (show ¬ (((readN (some (r, n)) : Nat) : Int) = 0) from by show ¬ ((n : Int) = 0); omega), if_pos (by omega)]
      · rw [PBlock.decode_go hne hrd h1, List.drop_drop]
        have hI := ih (at_ + n) fuel (xs ++ [rowB r]) (B r.key) (by omega) (by omega) (by omega) ?_ (by rw [List.length_append, List.length_singleton]; omega) (by rw [size_B, List.length_append, List.length_singleton]; omega)
        · have ew : wrap64 ((at_ : Int) + (n : Int)) = ((at_ + n : Nat) : Int) := by rw [wrap_id (by omega) (by omega)]; omega
          refine hgo _ (fun k => freshetref11_Rows.l0 k s b (xs ++ [rowB r]) (B r.key) ((at_ + n : Nat) : Int)) (fun k => ?_) ?_
          · rw [hrd]
            show (if (n : Int) = 0 then _ else (if (xs.length : Int) = 1024 then _ else (if xs.length < _ then freshetref11_Rows.l0 k s b (xs ++ [rowB r]) (B r.key) (wrap64 ((at_ : Int) + (n : Int))) else none))) = _
            rw [if_neg (by omega), if_neg (by omega), if_pos (by omega), ew]
          · rw [L_B, List.length_append, List.length_singleton] at hI
            cases hdc : PBlock.decode fuel ((L b).drop (at_ + n)) r.key (xs.length + 1) with
            | none => rw [hdc] at hI; exact hI
            | some l =>
              rw [hdc] at hI
              simp only [tailOf, Option.map_some] at hI ⊢
              rw [List.map_append, List.map_cons, List.map_nil, rowS_rowB, List.append_assoc, List.append_assoc] at hI
              exact hI
        · intro x hx2
          rcases List.mem_append.1 hx2 with h | h
          · exact hx x h
          · rw [List.mem_singleton.1 h]
            exact ⟨by show (0 : Int) ≤ (r.seq : Int); omega, by show (r.seq : Int) < _; omega⟩
theorem refrows_ev (s : ByteArray) (hs : s.size ≤ 4611686018427387904) : Ev (fun k => freshetref11_Rows.f k s) (rowsR (L s)) := by
  have hbad : Ev (fun k => freshetref11_Rows.j0 k s true) (([] : List S31), (7 : Int)) := by
    refine Ev.step (f := fun _ => some (([] : List S31), (7 : Int))) (fun k => ?_) (Ev.now _)
    simp only [freshetref11_Rows.j0]
    rw [if_pos trivial]
  unfold freshetref11_Rows.f rowsR
  by_cases c1 : s.size < 8
  · rw [PBlock.rows_bad (.inl (by rw [L_length]; exact c1))]
    exact Ev.congr (fun k => if_pos (by omega)) hbad
  refine Ev.congr (fun k => if_neg (by omega)) ?_
  by_cases c2 : 65536 < s.size
  · rw [PBlock.rows_bad (.inr (.inl (by rw [L_length]; exact c2))), decide_eq_true (show (s.size : Int) > 65536 by omega)]
    exact hbad
  rw [decide_eq_false (show ¬ (s.size : Int) > 65536 by omega)]
  have e1 : wrap64 ((s.size : Int) - 8) = ((s.size - 8 : Nat) : Int) := by rw [wrap_id (by omega) (by omega)]; omega
  have e2 : wrap64 (Int.tdiv ((s.size - 8 : Nat) : Int) 4) = (((s.size - 8) / 4 : Nat) : Int) := by
    rw [Int.tdiv_eq_ediv_of_nonneg (by omega), wrap_id (by omega) (by omega)]; omega
  have hw := refFour_at s (s.size - 8) (by omega)
  have t1 : (0 : Int) ≤ ((s.size - 8 : Nat) : Int) := by omega
  have t2 : ((s.size - 8 : Nat) : Int) ≤ (s.size : Int) := by omega
  by_cases c3 : (s.size - 8) / 4 < PBlock.unfour ((L s).drop (s.size - 8))
  · rw [PBlock.rows_bad (.inr (.inr (by rw [L_length]; exact c3)))]
    refine Ev.step (f := fun _ => some (([] : List S31), (7 : Int))) (fun k => ?_) (Ev.now _)
    simp only [freshetref11_Rows.j0]
    rw [if_neg (by simp), e1, e2, if_pos t1, if_pos t2, Int.toNat_natCast, hw, Option.bind_some, if_pos (by omega)]
  · have hsz : ¬ ((L s).length < 8 ∨ 65536 < (L s).length ∨ ((L s).length - 8) / 4 < PBlock.unfour ((L s).drop ((L s).length - 8))) := by rw [L_length]; omega
    have hbody : PBlock.body (L s) = (L s).take (s.size - 8 - 4 * PBlock.unfour ((L s).drop (s.size - 8))) := by unfold PBlock.body; rw [L_length]
    have hext : s.extract 0 (s.size - 8 - 4 * PBlock.unfour ((L s).drop (s.size - 8))) = B (PBlock.body (L s)) := by apply L_inj; rw [L_take, L_B, hbody]
    have hbl : (PBlock.body (L s)).length ≤ s.size := by unfold PBlock.body; rw [List.length_take, L_length]; omega
    have e3 : wrap64 (((s.size - 8 : Nat) : Int) - wrap64 (4 * ((PBlock.unfour ((L s).drop (s.size - 8)) : Nat) : Int))) = ((s.size - 8 - 4 * PBlock.unfour ((L s).drop (s.size - 8)) : Nat) : Int) := by
      rw [wrap_id (x := 4 * ((PBlock.unfour ((L s).drop (s.size - 8)) : Nat) : Int)) (by omega) (by omega), wrap_id (by omega) (by omega)]; omega
    have t3 : ¬ ((PBlock.unfour ((L s).drop (s.size - 8)) : Nat) : Int) > (((s.size - 8) / 4 : Nat) : Int) := by omega
    have t4 : (0 : Int) ≤ ((s.size - 8 - 4 * PBlock.unfour ((L s).drop (s.size - 8)) : Nat) : Int) := by omega
    have t5 : ((s.size - 8 - 4 * PBlock.unfour ((L s).drop (s.size - 8)) : Nat) : Int) ≤ (s.size : Int) := by omega
    refine Ev.step (f := fun k => freshetref11_Rows.l0 k s (B (PBlock.body (L s))) [] ⟨#[]⟩ ((0 : Nat) : Int)) (fun k => ?_) ?_
    · simp only [freshetref11_Rows.j0]
      rw [if_neg (by simp), e1, e2, if_pos t1, if_pos t2, Int.toNat_natCast, hw, Option.bind_some, if_neg t3, e3, if_pos t4, if_pos t5, Int.toNat_natCast, hext]
      rfl
    · have hl := refrows_loop s (B (PBlock.body (L s))) (by omega) (by omega) (by rw [size_B]; omega) _ 0 (s.size + 1) [] ⟨#[]⟩ (Nat.le_refl _) (by omega) (by rw [size_B]; omega) (by simp) (by simp) (Nat.le_refl 0)
      rw [List.drop_zero, L_B] at hl
      cases hd : PBlock.decode (s.size + 1) (PBlock.body (L s)) [] 0 with
      | none =>
        have hl2 : Ev (fun k => freshetref11_Rows.l0 k s (B (PBlock.body (L s))) [] ⟨#[]⟩ ((0 : Nat) : Int)) (tailOf (L s) [] (PBlock.decode (s.size + 1) (PBlock.body (L s)) [] 0)) := hl
        rw [hd] at hl2
        rw [PBlock.rows_none hsz (by rw [L_length]; exact hd)]
        exact hl2
      | some l =>
        have hl2 : Ev (fun k => freshetref11_Rows.l0 k s (B (PBlock.body (L s))) [] ⟨#[]⟩ ((0 : Nat) : Int)) (tailOf (L s) [] (PBlock.decode (s.size + 1) (PBlock.body (L s)) [] 0)) := hl
        rw [hd] at hl2
        unfold tailOf at hl2
        simp only [List.map_nil, List.nil_append] at hl2
        rw [PBlock.rows_some hsz (by rw [L_length]; exact hd)]
        by_cases hb : PBlock.build l (PBlock.unfour ((L s).drop ((L s).length - 4)) : Int) = (L s, 0)
        · rw [if_pos hb] at hl2 ⊢
          exact hl2
        · rw [if_neg hb] at hl2 ⊢
          exact hl2
theorem rows_short {s : List UInt8} {l : List PBlock.Row} {e : Nat} (h : PBlock.rows s = (l, e)) : l.length ≤ 1024 := by
  rcases PBlock.rows_err s with h0 | h0
  · rw [h] at h0
    dsimp only at h0
    subst h0
    obtain ⟨_, _, _, _, _, _, hn, _⟩ := PBlock.rows_good h
    exact hn
  · rw [h] at h0
    simp only [Prod.mk.injEq] at h0
    rw [h0.1]
    simp
end Go.Proofs.Ytjgbcaemcohmpaa.Block
-- PureBlockRows
namespace Go.Proofs.Ytjgbcaemcohmpaa.Pure
open Go.RowKit Txt Print Block Go.Proofs.YtjgbcaemcohmpaaW.PrintWords
theorem BlockRows : freshetlaw11_BlockRows.Pure := by
  intro a0 hs
  have h : Ev (fun k => freshetlaw11_BlockRows.f k a0) true := by
    unfold freshetlaw11_BlockRows.f
    by_cases hbig : (a0.size : Int) > 4096
    · refine Ev.congr (fun k => if_pos hbig) ?_
      exact Ev.bind awake11 (Ev.now _)
    refine Ev.congr (fun k => if_neg hbig) ?_
    refine Ev.bind (rows_ev a0 (by omega)) ?_
    refine Ev.bind (refrows_ev a0 (by omega)) ?_
    have hn := rows_short (s := L a0) (l := (PBlock.rows (L a0)).1) (e := (PBlock.rows (L a0)).2) rfl
    have hsame : Ev (fun k => freshetref06_SameRows.f k (rowsR (L a0)).1 (rowsR (L a0)).1) true := by
      unfold freshetref06_SameRows.f
      refine Ev.congr (fun k => if_pos rfl) ?_
      exact same_ev _ (by unfold rowsR; rw [List.length_map]; omega) _ 0 (Nat.le_refl _)
    refine Ev.bind hsame ?_
    refine Ev.congr (fun k => if_pos rfl) ?_
    refine Ev.congr (fun k => if_pos rfl) ?_
    exact Ev.bind awake11 (Ev.now _)
  exact h.rounds
end Go.Proofs.Ytjgbcaemcohmpaa.Pure
