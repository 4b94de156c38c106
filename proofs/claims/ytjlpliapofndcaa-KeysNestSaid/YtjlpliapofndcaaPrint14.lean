-- Written by a program of this session (wip/gprint.py) for this claim: Lean checks it.
import Derived.Test.YtjlpliapofndcaaPrint0
import Derived.Test.YtjlpliapofndcaaPrint6
import Derived.Test.YtjlpliapofndcaaLess
import Derived.Test.YtjlpliapofndcaaGCode
import Derived.Test.YtjlpliapofndcaaGSum
import Derived.Test.YtjlpliapofndcaaGKeys
namespace Go.Proofs.Ytjlpliapofndcaa.Print
open Go.RowKit Go.Proofs.YtjlpliapofndcaaW.PrintWords Go.Proofs.YtjlpliapofndcaaW.PrintLast Go.Proofs.YtjlpliapofndcaaW.PrintMore
attribute [local go_sem] max2_int min2_int max_two min_two max_three min_three max_four min_four   -- for this text's walks alone
set_option linter.unusedVariables false
set_option linter.unusedSimpArgs false

/-! ### freshetlaw03_KeysNest: function 7 -/
def freshetlaw03_KeysNest.j0 : Nat → Int → Int → ByteArray → ByteArray → ByteArray → ByteArray → Bool → Option (Bool)
  | 0, _, _, _, _, _, _, _ => none
  | k + 1, x1, x2, x7, x8, x10, x11, x37 => if x37 = true then ((freshetlaw03_awake.f).bind fun t207 => (some t207)) else (if ((Op.bytesLess x10.toList x7.toList) = true) then (some false) else (if ((Op.bytesLess x8.toList x11.toList) = true) then (some false) else (if (x7.size : Int) ≤ (x10.size : Int) then (if 0 ≤ (x7.size : Int) then (if (x10.extract 0 ((x7.size : Int) : Int).toNat).toList = x7.toList then (if x1 < x2 then ((freshetlaw03_awake.f).bind fun t208 => (some t208)) else (if x7.toList = x10.toList then (if x8.toList = x11.toList then ((freshetlaw03_awake.f).bind fun t209 => (some t209)) else (some false)) else (some false))) else (some false)) else (none)) else (some false))))
def freshetlaw03_KeysNest.f (k : Nat) (a0_0 : Int) (a0_1 : Int) (a0_2 : ByteArray) (a0_3 : ByteArray) (a0_4 : ByteArray) (a1 : Int) (a2 : Int) : Option (Bool) := (keys_Range.f a0_0 a0_1 a0_2 a0_3 a0_4 a1).bind fun bt201 => ((keys_Range.f a0_0 a0_1 a0_2 a0_3 a0_4 a2).bind fun bt204 => (if bt201.2.2 = 0 then (if bt204.2.2 = 0 then (freshetlaw03_KeysNest.j0 k a1 a2 bt201.1 bt201.2.1 bt204.1 bt204.2.1 (decide (a1 > a2))) else (freshetlaw03_KeysNest.j0 k a1 a2 bt201.1 bt201.2.1 bt204.1 bt204.2.1 true)) else (freshetlaw03_KeysNest.j0 k a1 a2 bt201.1 bt201.2.1 bt204.1 bt204.2.1 true)))
theorem freshetlaw03_KeysNest.mono_l : ∀ k, (∀ y0 y1 y2 y3 y4 y5 y6, LeO (freshetlaw03_KeysNest.j0 k y0 y1 y2 y3 y4 y5 y6) (freshetlaw03_KeysNest.j0 (k + 1) y0 y1 y2 y3 y4 y5 y6))
  | 0 => fun _ _ _ _ _ _ _ r h => by simp [freshetlaw03_KeysNest.j0] at h
  | k + 1 => by
    have ih0 := freshetlaw03_KeysNest.mono_l k
    · intro y0 y1 y2 y3 y4 y5 y6
      unfold freshetlaw03_KeysNest.j0
      repeat' first
      | (with_reducible exact ih0 _ _ _ _ _ _ _)
      | (with_reducible exact LeO.refl _)
      | (with_reducible exact LeO.none _)
      | (with_reducible refine LeO.ite ?_ ?_)
      | (with_reducible refine LeO.bind ?_ (fun _ => ?_))
      | exact ih0 _ _ _ _ _ _ _
      | exact LeO.none _
      | refine LeO.ite ?_ ?_
      | refine LeO.bind ?_ (fun _ => ?_)
theorem freshetlaw03_KeysNest.mono : ∀ a0 a1 a2 a3 a4 a5 a6 k, LeO (freshetlaw03_KeysNest.f k a0 a1 a2 a3 a4 a5 a6) (freshetlaw03_KeysNest.f (k + 1) a0 a1 a2 a3 a4 a5 a6) := by
  intro a0 a1 a2 a3 a4 a5 a6 k
  have ih0 := freshetlaw03_KeysNest.mono_l k
  unfold freshetlaw03_KeysNest.f
  repeat' first
      | (with_reducible exact ih0 _ _ _ _ _ _ _)
      | (with_reducible exact LeO.refl _)
      | (with_reducible exact LeO.none _)
      | (with_reducible refine LeO.ite ?_ ?_)
      | (with_reducible refine LeO.bind ?_ (fun _ => ?_))
      | exact ih0 _ _ _ _ _ _ _
      | exact LeO.none _
      | refine LeO.ite ?_ ?_
      | refine LeO.bind ?_ (fun _ => ?_)
set_option maxHeartbeats 8000000 in
set_option maxRecDepth 100000 in
theorem freshetlaw03_KeysNest.calls (k : Nat) (a0_0 : Int) (a0_1 : Int) (a0_2 : ByteArray) (a0_3 : ByteArray) (a0_4 : ByteArray) (a1 : Int) (a2 : Int) (r : Bool) (w : World) (h : freshetlaw03_KeysNest.f k a0_0 a0_1 a0_2 a0_3 a0_4 a1 a2 = some r) :
    Calls Try.prog 7 #[.agg #[.int .i64 a0_0, .int .i64 a0_1, .string a0_2, .string a0_3, .string a0_4], .int .i64 a1, .int .i64 a2] w fun e w' => e = .returned (.bool r) ∧ Below w.heap.size w w' := by
  have hu23 := Try.underlying23
  have HB := Aside0.mk (Below.refl w.heap.size w)
  have H : ((keys_Range.f a0_0 a0_1 a0_2 a0_3 a0_4 a1).bind fun bt201 => ((keys_Range.f a0_0 a0_1 a0_2 a0_3 a0_4 a2).bind fun bt204 => (if bt201.2.2 = 0 then (if bt204.2.2 = 0 then (freshetlaw03_KeysNest.j0 k a1 a2 bt201.1 bt201.2.1 bt204.1 bt204.2.1 (decide (a1 > a2))) else (freshetlaw03_KeysNest.j0 k a1 a2 bt201.1 bt201.2.1 bt204.1 bt204.2.1 true)) else (freshetlaw03_KeysNest.j0 k a1 a2 bt201.1 bt201.2.1 bt204.1 bt204.2.1 true)))) = some r := h
  clear h
  replace H := Option.bind_eq_some_iff.mp H
  obtain ⟨⟨t201, t202, t203⟩, A40, H⟩ := H
  replace H : ((keys_Range.f a0_0 a0_1 a0_2 a0_3 a0_4 a2).bind fun bt204 => (if t203 = 0 then (if bt204.2.2 = 0 then (freshetlaw03_KeysNest.j0 k a1 a2 t201 t202 bt204.1 bt204.2.1 (decide (a1 > a2))) else (freshetlaw03_KeysNest.j0 k a1 a2 t201 t202 bt204.1 bt204.2.1 true)) else (freshetlaw03_KeysNest.j0 k a1 a2 t201 t202 bt204.1 bt204.2.1 true))) = some r := H
  have A4 := Aside0.mk A40
  clear A40
  replace H := Option.bind_eq_some_iff.mp H
  obtain ⟨⟨t204, t205, t206⟩, A50, H⟩ := H
  replace H : (if t203 = 0 then (if t206 = 0 then (freshetlaw03_KeysNest.j0 k a1 a2 t201 t202 t204 t205 (decide (a1 > a2))) else (freshetlaw03_KeysNest.j0 k a1 a2 t201 t202 t204 t205 true)) else (freshetlaw03_KeysNest.j0 k a1 a2 t201 t202 t204 t205 true)) = some r := H
  have A5 := Aside0.mk A50
  clear A50
  have HC6 := Aside0.mk H
  clear H
  go_enter Try.func7, Try.ntmps7
  go_upto_region 3 with (first | ((with_reducible refine gate_dst (N := 3) rfl ?_); (try (refine gate_guard (by rfl) ?_; dsimp only)); refine box_event ?hg (N := 3) ?hd (cs := #[.int .i64 a0_0, .int .i64 a0_1, .string a0_2, .string a0_3, .string a0_4]) (t := 23) ?hr ?_; (case hd => rfl); (case hg => rfl); (case hr => first | (go_simp; done) | (go_simp; rfl)); intro gb200 hg w7 hbox hb; have n0_ := Aside0.mk (below_step (by repeat (first | (with_reducible first | exact HB.out | apply below_alloc | apply pw_below_drewN | apply below_drew1) | exact HB.out)) hb); have n1_ := Aside0.mk (hbox); have n2_ := Aside0.mk ((by rw [hg]; exact (below_size (by repeat (first | (with_reducible first | exact HB.out | apply below_alloc | apply pw_below_drewN | apply below_drew1) | exact HB.out))) : w.heap.size ≤ gb200)); have n3_ := Aside0.mk ((by rw [hg]; exact (below_size (by repeat (first | (with_reducible first | exact HB.out | apply below_alloc | apply pw_below_drewN | apply below_drew1) | exact HB.out))) : w.heap.size ≤ gb200)); clear HB; have HB := n0_; have BK200 := n1_; have GW200 := n2_; have GE200 := n3_; clear n0_ n1_ n2_ n3_; clear hb hbox hg; have hcz8_0 : w7.cell? ⟨gb200, 0, none⟩ = some (.int .i64 a0_0) := (blk_cell BK200.out 0).trans rfl; have hcz8_1 : w7.cell? ⟨gb200, 1, none⟩ = some (.int .i64 a0_1) := (blk_cell BK200.out 1).trans rfl; have hcz8_2 : w7.cell? ⟨gb200, 2, none⟩ = some (.string a0_2) := (blk_cell BK200.out 2).trans rfl; have hcz8_3 : w7.cell? ⟨gb200, 3, none⟩ = some (.string a0_3) := (blk_cell BK200.out 3).trans rfl; have hcz8_4 : w7.cell? ⟨gb200, 4, none⟩ = some (.string a0_4) := (blk_cell BK200.out 4).trans rfl; have hfz8_0 := blk_frozen BK200.out 0; have hfz8_1 := blk_frozen BK200.out 1; have hfz8_2 := blk_frozen BK200.out 2; have hfz8_3 := blk_frozen BK200.out 3; have hfz8_4 := blk_frozen BK200.out 4) | ((with_reducible refine gate_callee (f := 21) rfl ?_); refine goesL_ (some 16) rfl rfl Try.func21 (by kernel_rfl) rfl #[.agg #[.int .i64 a0_0, .int .i64 a0_1, .string a0_2, .string a0_3, .string a0_4], .int .i64 a1] rfl (by (try simp only [List.map_toArray, List.map_cons, List.map_nil]); first | done | rfl | (simp only [List.length_drop, List.length_take]; rfl)) ?_; (with_reducible refine (keys_Range.calls a0_0 a0_1 a0_2 a0_3 a0_4 a1 t201 t202 t203 _ A4.out).mono ?_); rintro e w9 ⟨rfl, hb⟩; refine ⟨_, rfl, ?_⟩; have n0_ := Aside0.mk (blk_below (g := gb200) (o := .cells #[.int .i64 a0_0, .int .i64 a0_1, .string a0_2, .string a0_3, .string a0_4] 23 (0, 0)) (by (with_reducible repeat (first | refine blk_drewN ?_ _ | refine blk_drew ?_ | refine blk_alloc ?_ _)); exact BK200.out) hb); have n1_ := Aside0.mk (below_step (by repeat (first | (with_reducible first | exact HB.out | apply below_alloc | apply pw_below_drewN | apply below_drew1 | refine below_set ?_ GE200.out) | exact HB.out)) hb); clear BK200; clear HB; have BK200 := n0_; have HB := n1_; clear n0_ n1_; (try clear hb); (try clear hb2); (try clear hk); (try clear hi); have hcz10_0 : w9.cell? ⟨gb200, 0, none⟩ = some (.int .i64 a0_0) := (blk_cell BK200.out 0).trans rfl; have hcz10_1 : w9.cell? ⟨gb200, 1, none⟩ = some (.int .i64 a0_1) := (blk_cell BK200.out 1).trans rfl; have hcz10_2 : w9.cell? ⟨gb200, 2, none⟩ = some (.string a0_2) := (blk_cell BK200.out 2).trans rfl; have hcz10_3 : w9.cell? ⟨gb200, 3, none⟩ = some (.string a0_3) := (blk_cell BK200.out 3).trans rfl; have hcz10_4 : w9.cell? ⟨gb200, 4, none⟩ = some (.string a0_4) := (blk_cell BK200.out 4).trans rfl; have hfz10_0 := blk_frozen BK200.out 0; have hfz10_1 := blk_frozen BK200.out 1; have hfz10_2 := blk_frozen BK200.out 2; have hfz10_3 := blk_frozen BK200.out 3; have hfz10_4 := blk_frozen BK200.out 4) | ((with_reducible refine gate_callee (f := 21) rfl ?_); refine goesL_ (some 23) rfl rfl Try.func21 (by kernel_rfl) rfl #[.agg #[.int .i64 a0_0, .int .i64 a0_1, .string a0_2, .string a0_3, .string a0_4], .int .i64 a2] rfl (by (try simp only [List.map_toArray, List.map_cons, List.map_nil]); first | done | rfl | (simp only [List.length_drop, List.length_take]; rfl)) ?_; (with_reducible refine (keys_Range.calls a0_0 a0_1 a0_2 a0_3 a0_4 a2 t204 t205 t206 _ A5.out).mono ?_); rintro e w11 ⟨rfl, hb⟩; refine ⟨_, rfl, ?_⟩; have n0_ := Aside0.mk (blk_below (g := gb200) (o := .cells #[.int .i64 a0_0, .int .i64 a0_1, .string a0_2, .string a0_3, .string a0_4] 23 (0, 0)) (by (with_reducible repeat (first | refine blk_drewN ?_ _ | refine blk_drew ?_ | refine blk_alloc ?_ _)); exact BK200.out) hb); have n1_ := Aside0.mk (below_step (by repeat (first | (with_reducible first | exact HB.out | apply below_alloc | apply pw_below_drewN | apply below_drew1 | refine below_set ?_ GE200.out) | exact HB.out)) hb); clear BK200; clear HB; have BK200 := n0_; have HB := n1_; clear n0_ n1_; (try clear hb); (try clear hb2); (try clear hk); (try clear hi)))
  (try simp only [Act.put, List.setIfInBounds_toArray, List.set_cons_zero, List.set_cons_succ])
  go_cut [37] (fun v37 wc => ∃ (kq : Nat) (x37_5 : Bool), v37 = .bool x37_5 ∧ Aside0 (freshetlaw03_KeysNest.j0 kq a1 a2 t201 t202 t204 t205 x37_5 = some r) ∧ Aside0 (kq ≤ k) ∧ Aside0 (wc.heap[gb200]? = some (.cells #[.int .i64 a0_0, .int .i64 a0_1, .string a0_2, .string a0_3, .string a0_4] 23 (0, 0))) ∧ Aside0 (Below w.heap.size w wc))
  case first =>
    have H := HC6.out
    clear HC6
    by_cases c12 : t203 = 0
    · rw [if_pos c12] at H
      have c12b0 : (t203 == 0) = true := beq_iff_eq.mpr c12
      have c12b1 : (t203 != 0) = false := bne_eq_false_iff_eq.mpr c12
      clear c12
      (first | rw [c12b0] | (simp only [i64_w, i32_w]; rw [c12b0]) | skip)
      by_cases c13 : t206 = 0
      · rw [if_pos c13] at H
        have c13b0 : (t206 == 0) = true := beq_iff_eq.mpr c13
        have c13b1 : (t206 != 0) = false := bne_eq_false_iff_eq.mpr c13
        clear c13
        have H' := Aside0.mk H
        clear H
        go_wp2
        go_meet
        case rel => exact ⟨_, (decide (a1 > a2)), (by first | rfl | (simp; done) | (simp [*]; done)), H', ⟨by first | omega | exact Nat.le_refl _⟩, ⟨by (with_reducible repeat (first | refine blk_drewN ?_ _ | refine blk_drew ?_ | refine blk_alloc ?_ _)); exact BK200.out⟩, ⟨by repeat (first | (with_reducible first | exact HB.out | apply below_alloc | apply pw_below_drewN | apply below_drew1 | refine below_set ?_ GE200.out) | exact HB.out)⟩⟩
      · rw [if_neg c13] at H
        have c13b0 : (t206 == 0) = false := beq_eq_false_iff_ne.mpr c13
        have c13b1 : (t206 != 0) = true := bne_iff_ne.mpr c13
        have H' := Aside0.mk H
        clear H
        go_wp2
        go_meet
        case rel => exact ⟨_, (true), (by first | rfl | (simp; done) | (simp [*]; done)), H', ⟨by first | omega | exact Nat.le_refl _⟩, ⟨by (with_reducible repeat (first | refine blk_drewN ?_ _ | refine blk_drew ?_ | refine blk_alloc ?_ _)); exact BK200.out⟩, ⟨by repeat (first | (with_reducible first | exact HB.out | apply below_alloc | apply pw_below_drewN | apply below_drew1 | refine below_set ?_ GE200.out) | exact HB.out)⟩⟩
    · rw [if_neg c12] at H
      have c12b0 : (t203 == 0) = false := beq_eq_false_iff_ne.mpr c12
      have c12b1 : (t203 != 0) = true := bne_iff_ne.mpr c12
      (first | rw [c12b0] | (simp only [i64_w, i32_w]; rw [c12b0]) | skip)
      have H' := Aside0.mk H
      clear H
      go_wp2
      go_meet
      case rel => exact ⟨_, (true), (by first | rfl | (simp; done) | (simp [*]; done)), H', ⟨by first | omega | exact Nat.le_refl _⟩, ⟨by (with_reducible repeat (first | refine blk_drewN ?_ _ | refine blk_drew ?_ | refine blk_alloc ?_ _)); exact BK200.out⟩, ⟨by repeat (first | (with_reducible first | exact HB.out | apply below_alloc | apply pw_below_drewN | apply below_drew1 | refine below_set ?_ GE200.out) | exact HB.out)⟩⟩
  case rest =>
    clear HC6
    try clear c1
    try clear c2
    try clear p2
    try clear c7
    try clear c12
    try clear c12b0
    try clear c12b1
    try clear c13
    try clear c13b0
    try clear c13b1
    try clear hcz10_0
    try clear hcz10_1
    try clear hcz10_2
    try clear hcz10_3
    try clear hcz10_4
    try clear hcz8_0
    try clear hcz8_1
    try clear hcz8_2
    try clear hcz8_3
    try clear hcz8_4
    try clear hfz10_0
    try clear hfz10_1
    try clear hfz10_2
    try clear hfz10_3
    try clear hfz10_4
    try clear hfz8_0
    try clear hfz8_1
    try clear hfz8_2
    try clear hfz8_3
    try clear hfz8_4
    obtain ⟨kq, x37_5, rfl, HA, HJ5, BK200, HB⟩ := hcut
    cases kq with
    | zero => exact absurd HA.out (by simp [freshetlaw03_KeysNest.j0])
    | succ kj5 =>
      have H := HA.out
      clear HA
      simp only [freshetlaw03_KeysNest.j0] at H
      by_cases c14 : x37_5 = true
      · subst c14
        have H1 : ((freshetlaw03_awake.f).bind fun t207 => (some t207)) = some r := by rw [if_pos rfl] at H; exact H
        clear H
        have H := H1
        clear H1
        replace H := Option.bind_eq_some_iff.mp H
        obtain ⟨t207, A150, H⟩ := H
        replace H : (some t207) = some r := H
        have A15 := Aside0.mk A150
        clear A150
        obtain rfl := Option.some.inj H
        go_wp2_with (first | ((with_reducible refine gate_callee (f := 18) rfl ?_); refine goesL_ (some 38) rfl rfl Try.func18 (by kernel_rfl) rfl #[] rfl (by (try simp only [List.map_toArray, List.map_cons, List.map_nil]); first | done | rfl | (simp only [List.length_drop, List.length_take]; rfl)) ?_; (with_reducible refine (freshetlaw03_awake.calls  t207 _ A15.out).mono ?_); rintro e w16 ⟨rfl, hb⟩; refine ⟨_, rfl, ?_⟩; have n0_ := Aside0.mk (blk_below (g := gb200) (o := .cells #[.int .i64 a0_0, .int .i64 a0_1, .string a0_2, .string a0_3, .string a0_4] 23 (0, 0)) (by (with_reducible repeat (first | refine blk_drewN ?_ _ | refine blk_drew ?_ | refine blk_alloc ?_ _)); exact BK200.out) hb); have n1_ := Aside0.mk (below_step (by repeat (first | (with_reducible first | exact HB.out | apply below_alloc | apply pw_below_drewN | apply below_drew1 | refine below_set ?_ GE200.out) | exact HB.out)) hb); clear BK200; clear HB; have BK200 := n0_; have HB := n1_; clear n0_ n1_; (try clear hb); (try clear hb2); (try clear hk); (try clear hi)))
        go_ret
        exact ⟨by first | rfl | (simp [errW_none, errW_some] <;> rfl) | (simp [*, errW_none, errW_some] <;> rfl), by repeat (first | (with_reducible first | exact HB.out | apply below_alloc | apply pw_below_drewN | apply below_drew1 | refine below_set ?_ GE200.out) | exact HB.out)⟩
      · replace c14 := Bool.eq_false_iff.mpr c14
        subst c14
        have H1 : (if ((Op.bytesLess t204.toList t201.toList) = true) then (some false) else (if ((Op.bytesLess t202.toList t205.toList) = true) then (some false) else (if (t201.size : Int) ≤ (t204.size : Int) then (if 0 ≤ (t201.size : Int) then (if (t204.extract 0 ((t201.size : Int) : Int).toNat).toList = t201.toList then (if a1 < a2 then ((freshetlaw03_awake.f).bind fun t208 => (some t208)) else (if t201.toList = t204.toList then (if t202.toList = t205.toList then ((freshetlaw03_awake.f).bind fun t209 => (some t209)) else (some false)) else (some false))) else (some false)) else (none)) else (some false)))) = some r := by rw [if_neg (show ¬ (false = true) by decide)] at H; exact H
        clear H
        have H := H1
        clear H1
        by_cases c17 : ((Op.bytesLess t204.toList t201.toList) = true)
        · rw [if_pos c17] at H
          have c17b0 : (Op.bytesLess t204.toList t201.toList) = true := c17
          have c17k1 := less_anti c17b0
          have c17k2 := less_ne1 c17b0
          have c17k3 := less_ne2 c17b0
          have c17k4 := eq_false (less_ne c17b0)
          have c17k5 := eq_false (less_ne c17b0).symm
          clear c17
          obtain rfl := Option.some.inj H
          go_wp2
          go_ret
          exact ⟨by first | rfl | (simp [errW_none, errW_some] <;> rfl) | (simp [*, errW_none, errW_some] <;> rfl), by repeat (first | (with_reducible first | exact HB.out | apply below_alloc | apply pw_below_drewN | apply below_drew1 | refine below_set ?_ GE200.out) | exact HB.out)⟩
        · rw [if_neg c17] at H
          have c17b0 : (Op.bytesLess t204.toList t201.toList) = false := by simpa using c17
          have c17k1 := less_orB c17b0
          have c17k2 := eq_true (less_or c17b0)
          clear c17
          by_cases c18 : ((Op.bytesLess t202.toList t205.toList) = true)
          · rw [if_pos c18] at H
            have c18b0 : (Op.bytesLess t202.toList t205.toList) = true := c18
            have c18k1 := less_anti c18b0
            have c18k2 := less_ne1 c18b0
            have c18k3 := less_ne2 c18b0
            have c18k4 := eq_false (less_ne c18b0)
            have c18k5 := eq_false (less_ne c18b0).symm
            clear c18
            obtain rfl := Option.some.inj H
            go_wp2
            go_ret
            exact ⟨by first | rfl | (simp [errW_none, errW_some] <;> rfl) | (simp [*, errW_none, errW_some] <;> rfl), by repeat (first | (with_reducible first | exact HB.out | apply below_alloc | apply pw_below_drewN | apply below_drew1 | refine below_set ?_ GE200.out) | exact HB.out)⟩
          · rw [if_neg c18] at H
            have c18b0 : (Op.bytesLess t202.toList t205.toList) = false := by simpa using c18
            have c18k1 := less_orB c18b0
            have c18k2 := eq_true (less_or c18b0)
            clear c18
            by_cases c19 : (t201.size : Int) ≤ (t204.size : Int)
            · rw [if_pos c19] at H
              have c19b0 : decide ((t201.size : Int) ≤ (t204.size : Int)) = true := decide_eq_true c19
              have c19b1 : decide (t201.size ≤ t204.size) = true := decide_eq_true (Int.ofNat_le.mp c19)
              clear c19
              by_cases c20 : 0 ≤ (t201.size : Int)
              · rw [if_pos c20] at H
                have c20b0 := eq_true c20
                have c20b1 : decide (0 ≤ (t201.size : Int)) = true := decide_eq_true c20
                clear c20
                have c21b0 := eq_true (of_decide_eq_true (by first | (with_reducible assumption) | assumption) : (t201.size : Int) ≤ (t204.size : Int))
                by_cases c22 : (t204.extract 0 ((t201.size : Int) : Int).toNat).toList = t201.toList
                · rw [if_pos c22] at H
                  have c22b0 : ((t204.extract 0 ((t201.size : Int) : Int).toNat).toList == t201.toList) = true := beq_iff_eq.mpr c22
                  try have c22b0n : ((t204.extract 0 t201.size).toList == t201.toList) = true := c22b0
                  have c22b1 : ((t204.extract 0 ((t201.size : Int) : Int).toNat).toList != t201.toList) = false := bne_eq_false_iff_eq.mpr c22
                  try have c22b1n : ((t204.extract 0 t201.size).toList != t201.toList) = false := c22b1
                  clear c22
                  by_cases c23 : a1 < a2
                  · rw [if_pos c23] at H
                    have c23b0 : decide (a1 < a2) = true := decide_eq_true c23
                    clear c23
                    replace H := Option.bind_eq_some_iff.mp H
                    obtain ⟨t208, A240, H⟩ := H
                    replace H : (some t208) = some r := H
                    have A24 := Aside0.mk A240
                    clear A240
                    obtain rfl := Option.some.inj H
                    go_wp2_with (first | (go_at_call 18; (with_reducible refine (freshetlaw03_awake.calls  t208 _ A24.out).mono ?_); rintro e w25 ⟨rfl, hb⟩; have n0_ := Aside0.mk (blk_below (g := gb200) (o := .cells #[.int .i64 a0_0, .int .i64 a0_1, .string a0_2, .string a0_3, .string a0_4] 23 (0, 0)) (by (with_reducible repeat (first | refine blk_drewN ?_ _ | refine blk_drew ?_ | refine blk_alloc ?_ _)); exact BK200.out) hb); have n1_ := Aside0.mk (below_step (by repeat (first | (with_reducible first | exact HB.out | apply below_alloc | apply pw_below_drewN | apply below_drew1 | refine below_set ?_ GE200.out) | exact HB.out)) hb); clear BK200; clear HB; have BK200 := n0_; have HB := n1_; clear n0_ n1_; (try clear hb); (try clear hb2); (try clear hk); (try clear hi)))
                    go_ret
                    exact ⟨by first | rfl | (simp [errW_none, errW_some] <;> rfl) | (simp [*, errW_none, errW_some] <;> rfl), by repeat (first | (with_reducible first | exact HB.out | apply below_alloc | apply pw_below_drewN | apply below_drew1 | refine below_set ?_ GE200.out) | exact HB.out)⟩
                  · rw [if_neg c23] at H
                    have c23b0 : decide (a1 < a2) = false := decide_eq_false c23
                    clear c23
                    by_cases c26 : t201.toList = t204.toList
                    · rw [if_pos c26] at H
                      have c26b0 : (t201.toList == t204.toList) = true := beq_iff_eq.mpr c26
                      have c26b1 : (t201.toList != t204.toList) = false := bne_eq_false_iff_eq.mpr c26
                      clear c26
                      by_cases c27 : t202.toList = t205.toList
                      · rw [if_pos c27] at H
                        have c27b0 : (t202.toList == t205.toList) = true := beq_iff_eq.mpr c27
                        have c27b1 : (t202.toList != t205.toList) = false := bne_eq_false_iff_eq.mpr c27
                        clear c27
                        replace H := Option.bind_eq_some_iff.mp H
                        obtain ⟨t209, A280, H⟩ := H
                        replace H : (some t209) = some r := H
                        have A28 := Aside0.mk A280
                        clear A280
                        obtain rfl := Option.some.inj H
                        go_wp2_with (first | (go_at_call 18; (with_reducible refine (freshetlaw03_awake.calls  t209 _ A28.out).mono ?_); rintro e w29 ⟨rfl, hb⟩; have n0_ := Aside0.mk (blk_below (g := gb200) (o := .cells #[.int .i64 a0_0, .int .i64 a0_1, .string a0_2, .string a0_3, .string a0_4] 23 (0, 0)) (by (with_reducible repeat (first | refine blk_drewN ?_ _ | refine blk_drew ?_ | refine blk_alloc ?_ _)); exact BK200.out) hb); have n1_ := Aside0.mk (below_step (by repeat (first | (with_reducible first | exact HB.out | apply below_alloc | apply pw_below_drewN | apply below_drew1 | refine below_set ?_ GE200.out) | exact HB.out)) hb); clear BK200; clear HB; have BK200 := n0_; have HB := n1_; clear n0_ n1_; (try clear hb); (try clear hb2); (try clear hk); (try clear hi)))
                        go_ret
                        exact ⟨by first | rfl | (simp [errW_none, errW_some] <;> rfl) | (simp [*, errW_none, errW_some] <;> rfl), by repeat (first | (with_reducible first | exact HB.out | apply below_alloc | apply pw_below_drewN | apply below_drew1 | refine below_set ?_ GE200.out) | exact HB.out)⟩
                      · rw [if_neg c27] at H
                        have c27b0 : (t202.toList == t205.toList) = false := beq_eq_false_iff_ne.mpr c27
                        try have c27k2 : Op.bytesLess t205.toList t202.toList = true := (less_or c18b0).resolve_right (fun e => by simp [e] at c27b0)
                        have c27b1 : (t202.toList != t205.toList) = true := bne_iff_ne.mpr c27
                        obtain rfl := Option.some.inj H
                        go_wp2
                        go_ret
                        exact ⟨by first | rfl | (simp [errW_none, errW_some] <;> rfl) | (simp [*, errW_none, errW_some] <;> rfl), by repeat (first | (with_reducible first | exact HB.out | apply below_alloc | apply pw_below_drewN | apply below_drew1 | refine below_set ?_ GE200.out) | exact HB.out)⟩
                    · rw [if_neg c26] at H
                      have c26b0 : (t201.toList == t204.toList) = false := beq_eq_false_iff_ne.mpr c26
                      try have c26k1 : Op.bytesLess t201.toList t204.toList = true := (less_or c17b0).resolve_right (by simpa using c26b0)
                      have c26b1 : (t201.toList != t204.toList) = true := bne_iff_ne.mpr c26
                      obtain rfl := Option.some.inj H
                      go_wp2
                      go_ret
                      exact ⟨by first | rfl | (simp [errW_none, errW_some] <;> rfl) | (simp [*, errW_none, errW_some] <;> rfl), by repeat (first | (with_reducible first | exact HB.out | apply below_alloc | apply pw_below_drewN | apply below_drew1 | refine below_set ?_ GE200.out) | exact HB.out)⟩
                · rw [if_neg c22] at H
                  have c22b0 : ((t204.extract 0 ((t201.size : Int) : Int).toNat).toList == t201.toList) = false := beq_eq_false_iff_ne.mpr c22
                  try have c22b0n : ((t204.extract 0 t201.size).toList == t201.toList) = false := c22b0
                  have c22b1 : ((t204.extract 0 ((t201.size : Int) : Int).toNat).toList != t201.toList) = true := bne_iff_ne.mpr c22
                  try have c22b1n : ((t204.extract 0 t201.size).toList != t201.toList) = true := c22b1
                  obtain rfl := Option.some.inj H
                  go_wp2
                  go_ret
                  exact ⟨by first | rfl | (simp [errW_none, errW_some] <;> rfl) | (simp [*, errW_none, errW_some] <;> rfl), by repeat (first | (with_reducible first | exact HB.out | apply below_alloc | apply pw_below_drewN | apply below_drew1 | refine below_set ?_ GE200.out) | exact HB.out)⟩
              · rw [if_neg c20] at H
                exact absurd H (by simp)
            · rw [if_neg c19] at H
              have c19b0 : decide ((t201.size : Int) ≤ (t204.size : Int)) = false := decide_eq_false c19
              have c19b1 : decide (t201.size ≤ t204.size) = false := decide_eq_false (fun h => c19 (Int.ofNat_le.mpr h))
              clear c19
              obtain rfl := Option.some.inj H
              go_wp2
              go_ret
              exact ⟨by first | rfl | (simp [errW_none, errW_some] <;> rfl) | (simp [*, errW_none, errW_some] <;> rfl), by repeat (first | (with_reducible first | exact HB.out | apply below_alloc | apply pw_below_drewN | apply below_drew1 | refine below_set ?_ GE200.out) | exact HB.out)⟩

end Go.Proofs.Ytjlpliapofndcaa.Print
