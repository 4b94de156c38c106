/- Texts of this claim, joined by a program of this session (wip/pack.py): Print13, TabF, TabE, TabM, TabR, TabA. -/
import Derived.Deep.RegionHeld3
import Derived.StillTailTactics
import Derived.Deep.QuietTactic
import Derived.BigQuiet
import Derived.Test.YtaigmemmgjlhgaaQTableDamage4
import Derived.Test.YtaigmemmgjlhgaaQTableDamage6
import Derived.Test.YtaigmemmgjlhgaaQTableDamage8
import Derived.Test.YtaigmemmgjlhgaaQTableDamage9
import Derived.Test.YtaigmemmgjlhgaaQTableDamage12
import Derived.Test.YtaigmemmgjlhgaaQTableDamage14
import Derived.Test.YtaigmemmgjlhgaaQTableDamage15
import Derived.Test.YtaigmemmgjlhgaaQTableDamage16
import Derived.Test.YtaigmemmgjlhgaaQTableDamage18
-- Print13
namespace Go.Proofs.Ytaigmemmgjlhgaa.Print
open Go.RowKit Go.Proofs.YtaigmemmgjlhgaaW.PrintWords Go.Proofs.YtaigmemmgjlhgaaW.PrintLast Go.Proofs.YtaigmemmgjlhgaaW.PrintMore
attribute [local go_sem] q1k q1i q1v q1u q1a q19 q1j q1h
set_option linter.unusedVariables false
set_option linter.unusedSimpArgs false
def table_one.f (k : Nat) (a0 : ByteArray) : Option (ByteArray × Bool) := (frame_Get.f k a0).bind fun bt185 => (if bt185.2.2 = 0 then (some (bt185.1, (bt185.2.1 == (a0.size : Int)))) else (some (bt185.1, false)))
theorem table_one.mono : ∀ a0 k, LeO (table_one.f k a0) (table_one.f (k + 1) a0) := by
 intro a0 k
 unfold table_one.f
 repeat' first
   | (with_reducible exact frame_Get.mono _ _)
   | (with_reducible exact LeO.refl _)
   | (with_reducible exact LeO.none _)
   | (with_reducible refine LeO.ite ?_ ?_)
   | (with_reducible refine LeO.bind ?_ (fun _ => ?_))
   | exact frame_Get.mono _ _
   | exact LeO.none _
   | refine LeO.ite ?_ ?_
   | refine LeO.bind ?_ (fun _ => ?_)
set_option maxHeartbeats 8000000 in
set_option maxRecDepth 100000 in
theorem table_one.calls (k : Nat) (a0 : ByteArray) (r1 : ByteArray) (r2 : Bool) (w : World) (h : table_one.f k a0 = some (r1, r2)) :
  Calls Try.prog 41 #[.string a0] w fun e w' => e = .returned (.tuple #[.string r1, .bool r2]) ∧ Below w.heap.size w w' := by
 have HB := q04.mk (Below.refl w.heap.size w)
 have H : ((frame_Get.f k a0).bind fun bt185 => (if bt185.2.2 = 0 then (some (bt185.1, (bt185.2.1 == (a0.size : Int)))) else (some (bt185.1, false)))) = some (r1, r2) := h
 clear h
 replace H := Option.bind_eq_some_iff.mp H
 obtain ⟨⟨t185, t186, t187⟩, A20, H⟩ := H
 replace H : (if t187 = 0 then (some (t185, (t186 == (a0.size : Int)))) else (some (t185, false))) = some (r1, r2) := H
 have A2 := q04.mk A20
 clear A20
 by_cases c3 : t187 = 0
 ·rw [if_pos c3] at H
  have c3b0 : (t187 == 0) = true := beq_iff_eq.mpr c3
  have c3b1 : (t187 != 0) = false := bne_eq_false_iff_eq.mpr c3
  clear c3
  simp only [Option.some.injEq, Prod.mk.injEq] at H
  obtain ⟨rfl, rfl⟩ := H
  go_enter Try.func41, Try.ntmps41
  go_wp2_with (first | ((with_reducible refine q0h (f := 63) rfl ?_); refine q0r (some 9) rfl rfl Try.func63 (by kernel_rfl) rfl #[.string a0] rfl (by (try simp only [List.map_toArray, List.map_cons, List.map_nil]); first | done | rfl | (simp only [List.length_drop, List.length_take]; rfl)) ?_; (with_reducible refine (frame_Get.calls k a0 t185 t186 t187 _ A2.out).mono ?_); rintro e w4 ⟨rfl, hb⟩; refine ⟨_, rfl, ?_⟩; have n0_ := q04.mk (q0a (by repeat (first | (with_reducible first | exact HB.out | apply q02 | apply q00 | apply q01) | exact HB.out)) hb); clear HB; have HB := n0_; clear n0_; (try clear hb); (try clear hb2); (try clear hk); (try clear hi)))
  go_ret2
  exact ⟨by first | rfl | (simp [q0c, q0b] <;> rfl) | (simp [*, q0c, q0b] <;> rfl), by repeat (first | (with_reducible first | exact HB.out | apply q02 | apply q00 | apply q01) | exact HB.out)⟩
 ·rw [if_neg c3] at H
  have c3b0 : (t187 == 0) = false := beq_eq_false_iff_ne.mpr c3
  have c3b1 : (t187 != 0) = true := bne_iff_ne.mpr c3
  simp only [Option.some.injEq, Prod.mk.injEq] at H
  obtain ⟨rfl, rfl⟩ := H
  go_enter Try.func41, Try.ntmps41
  go_wp2_with (first | ((with_reducible refine q0h (f := 63) rfl ?_); refine q0r (some 9) rfl rfl Try.func63 (by kernel_rfl) rfl #[.string a0] rfl (by (try simp only [List.map_toArray, List.map_cons, List.map_nil]); first | done | rfl | (simp only [List.length_drop, List.length_take]; rfl)) ?_; (with_reducible refine (frame_Get.calls k a0 t185 t186 t187 _ A2.out).mono ?_); rintro e w5 ⟨rfl, hb⟩; refine ⟨_, rfl, ?_⟩; have n0_ := q04.mk (q0a (by repeat (first | (with_reducible first | exact HB.out | apply q02 | apply q00 | apply q01) | exact HB.out)) hb); clear HB; have HB := n0_; clear n0_; (try clear hb); (try clear hb2); (try clear hk); (try clear hi)))
  go_ret2
  exact ⟨by first | rfl | (simp [q0c, q0b] <;> rfl) | (simp [*, q0c, q0b] <;> rfl), by repeat (first | (with_reducible first | exact HB.out | apply q02 | apply q00 | apply q01) | exact HB.out)⟩
def table_number.l0 : Nat → ByteArray → Int → Int → Int → Option (Int × Bool)
 | 0, _, _, _, _ => none
 | k + 1, x0, x1, x6, x7 => if x7 ≥ 0 then (if 0 ≤ x7 then (if x7 < (x0.size : Int) then (table_number.l0 k x0 x1 (Go.bits .or .u64 (IntKind.u64.wrap (x6 * 256)) (IntKind.u64.wrap (bt x0 x7))) (wrap64 (x7 - 1))) else (none)) else (none)) else (some (wrap64 (x6), decide (x6 ≤ (IntKind.u64.wrap (x1)))))
def table_number.f (k : Nat) (a0 : ByteArray) (a1 : Int) : Option (Int × Bool) := table_number.l0 k a0 a1 0 7
theorem table_number.mono_l : ∀ k, (∀ y0 y1 y2 y3, LeO (table_number.l0 k y0 y1 y2 y3) (table_number.l0 (k + 1) y0 y1 y2 y3))
 | 0 => fun _ _ _ _ r h => by simp [table_number.l0] at h
 | k + 1 => by
  have ih0 := table_number.mono_l k
  ·intro y0 y1 y2 y3
   unfold table_number.l0
   repeat' first
   | (with_reducible exact ih0 _ _ _ _)
   | (with_reducible exact LeO.refl _)
   | (with_reducible exact LeO.none _)
   | (with_reducible refine LeO.ite ?_ ?_)
   | (with_reducible refine LeO.bind ?_ (fun _ => ?_))
   | exact ih0 _ _ _ _
   | exact LeO.none _
   | refine LeO.ite ?_ ?_
   | refine LeO.bind ?_ (fun _ => ?_)
theorem table_number.mono : ∀ a0 a1 k, LeO (table_number.f k a0 a1) (table_number.f (k + 1) a0 a1) := by
 intro a0 a1 k
 have ih0 := table_number.mono_l k
 unfold table_number.f
 repeat' first
   | (with_reducible exact ih0 _ _ _ _)
   | (with_reducible exact LeO.refl _)
   | (with_reducible exact LeO.none _)
   | (with_reducible refine LeO.ite ?_ ?_)
   | (with_reducible refine LeO.bind ?_ (fun _ => ?_))
   | exact ih0 _ _ _ _
   | exact LeO.none _
   | refine LeO.ite ?_ ?_
   | refine LeO.bind ?_ (fun _ => ?_)
set_option maxHeartbeats 8000000 in
set_option maxRecDepth 100000 in
theorem table_number.calls (k : Nat) (a0 : ByteArray) (a1 : Int) (r1 : Int) (r2 : Bool) (w : World) (h : table_number.f k a0 a1 = some (r1, r2)) :
  Calls Try.prog 40 #[.string a0, .int .i64 a1] w fun e w' => e = .returned (.tuple #[.int .i64 r1, .bool r2]) ∧ q0m w w' := by
 have H : (table_number.l0 k a0 a1 0 7) = some (r1, r2) := h
 clear h
 have H' := q04.mk H
 clear H
 go_enter Try.func40, Try.ntmps40
 go_wp2
 go_loopg [6, 7] k (fun kq v6 v7 w' => ∃ (x6_1 : Int) (x7_1 : Int), v6 = .int .u64 x6_1 ∧ v7 = .int .i64 x7_1 ∧ q04 (table_number.l0 kq a0 a1 x6_1 x7_1 = some (r1, r2)) ∧ q04 (kq ≤ k) ∧ q0m w w')
 case atStart => exact ⟨(0), (7), (by first | rfl | (simp; done) | (simp [*]; done)), (by first | rfl | (simp; done) | (simp [*]; done)), H', ⟨Nat.le_refl _⟩, by repeat (first | exact q0m.refl _ | apply q0m.step)⟩
 case round =>
  clear H'
  try clear p2
  obtain ⟨x6_1, x7_1, rfl, rfl, HA, HK1, ⟨m1, rfl⟩⟩ := hrel
  cases gk with
  | zero => exact absurd HA.out (by simp [table_number.l0])
  | succ k1 =>
   have H := HA.out
   clear HA
   simp only [table_number.l0] at H
   by_cases c3 : x7_1 ≥ 0
   ·rw [if_pos c3] at H
    have c3b0 : decide (0 ≤ x7_1) = true := decide_eq_true c3
    clear c3
    by_cases c4 : 0 ≤ x7_1
    ·rw [if_pos c4] at H
     have c4b0 : decide (0 ≤ x7_1) = true := decide_eq_true c4
     clear c4
     by_cases c5 : x7_1 < (a0.size : Int)
     ·rw [if_pos c5] at H
      have c5b0 : decide (x7_1 < (a0.size : Int)) = true := decide_eq_true c5
      clear c5
      have H' := q04.mk H
      clear H
      have p6 : 0 ≤ (x7_1 : Int) := of_decide_eq_true (by first | (with_reducible assumption) | assumption)
      have q6 : x7_1 < (a0.size : Int) := of_decide_eq_true (by first | (with_reducible assumption) | assumption)
      have hx6 := bt_at a0 x7_1
      replace p6 := eq_true p6
      replace q6 := eq_true q6
      go_wp2
      go_roundg k1
      case measure => have := HK1.out; omega
      case rel => exact ⟨(Go.bits .or .u64 (IntKind.u64.wrap (x6_1 * 256)) (IntKind.u64.wrap (bt a0 x7_1))), (wrap64 (x7_1 - 1)), (by first | rfl | (simp; done) | (simp [*]; done)), (by first | rfl | (simp; done) | (simp [*]; done)), H', ⟨by have := HK1.out; omega⟩, by repeat (first | exact q0m.refl _ | apply q0m.step)⟩
     ·rw [if_neg c5] at H
      exact absurd H (by simp)
    ·rw [if_neg c4] at H
     exact absurd H (by simp)
   ·rw [if_neg c3] at H
    have c3b0 : decide (0 ≤ x7_1) = false := decide_eq_false c3
    clear c3
    simp only [Option.some.injEq, Prod.mk.injEq] at H
    obtain ⟨rfl, rfl⟩ := H
    go_wp2
    go_ret2
    exact ⟨by first | rfl | (simp; done) | (simp [*]; done), by repeat (first | exact q0m.refl _ | apply q0m.step)⟩
def table_entry.f (k : Nat) (a0_0 : ByteArray) (a0_1 : Int) (a0_2 : Int) (a0_3 : ByteArray) : Option (ByteArray × ByteArray × Int × Int × Int × Int × Bool) := (code_Field.f k a0_3 520).bind fun bt190 => (if 0 ≤ bt190.2.1 then (if bt190.2.1 ≤ (a0_3.size : Int) then ((code_Uint.f (a0_3.extract (bt190.2.1 : Int).toNat a0_3.size)).bind fun bt193 => (if 0 ≤ (wrap64 (bt190.2.1 + bt193.2.1)) then (if (wrap64 (bt190.2.1 + bt193.2.1)) ≤ (a0_3.size : Int) then ((code_Uint.f (a0_3.extract ((wrap64 (bt190.2.1 + bt193.2.1)) : Int).toNat a0_3.size)).bind fun bt196 => (if bt190.2.2 = 0 then (if bt193.2.2 = 0 then (if bt196.2.2 = 0 then (if (wrap64 ((wrap64 (bt190.2.1 + bt193.2.1)) + bt196.2.1)) = (a0_3.size : Int) then (if a0_2 = 1 then (if bt193.1 ≤ 262144 then (if bt196.1 ≥ 1 then (some (bt190.1, a0_0, a0_1, wrap64 (bt196.1), wrap64 (bt193.1), 0, decide (bt196.1 ≤ 1024))) else (some (bt190.1, a0_0, a0_1, wrap64 (bt196.1), wrap64 (bt193.1), 0, false))) else (some (bt190.1, a0_0, a0_1, wrap64 (bt196.1), wrap64 (bt193.1), 0, false))) else (some (bt190.1, a0_0, a0_1, wrap64 (bt196.1), wrap64 (bt193.1), 0, false))) else (some (bt190.1, a0_0, a0_1, wrap64 (bt196.1), wrap64 (bt193.1), 0, false))) else (some (bt190.1, a0_0, a0_1, wrap64 (bt196.1), wrap64 (bt193.1), 0, false))) else (some (bt190.1, a0_0, a0_1, wrap64 (bt196.1), wrap64 (bt193.1), 0, false))) else (some (bt190.1, a0_0, a0_1, wrap64 (bt196.1), wrap64 (bt193.1), 0, false)))) else (none)) else (none))) else (none)) else (none))
theorem table_entry.mono : ∀ a0 a1 a2 a3 k, LeO (table_entry.f k a0 a1 a2 a3) (table_entry.f (k + 1) a0 a1 a2 a3) := by
 intro a0 a1 a2 a3 k
 unfold table_entry.f
 repeat' first
   | (with_reducible exact code_Field.mono _ _ _)
   | (with_reducible exact LeO.refl _)
   | (with_reducible exact LeO.none _)
   | (with_reducible refine LeO.ite ?_ ?_)
   | (with_reducible refine LeO.bind ?_ (fun _ => ?_))
   | exact code_Field.mono _ _ _
   | exact LeO.none _
   | refine LeO.ite ?_ ?_
   | refine LeO.bind ?_ (fun _ => ?_)
set_option maxHeartbeats 8000000 in
set_option maxRecDepth 100000 in
theorem table_entry.calls (k : Nat) (a0_0 : ByteArray) (a0_1 : Int) (a0_2 : Int) (a0_3 : ByteArray) (r1 : ByteArray) (r2 : ByteArray) (r3 : Int) (r4 : Int) (r5 : Int) (r6 : Int) (r7 : Bool) (w : World) (h : table_entry.f k a0_0 a0_1 a0_2 a0_3 = some (r1, r2, r3, r4, r5, r6, r7)) :
  Calls Try.prog 44 #[.agg #[.string a0_0, .int .u64 a0_1, .int .i64 a0_2, .string a0_3]] w fun e w' => e = .returned (.tuple #[.agg #[.string r1, .string r2, .int .u64 r3, .int .i64 r4, .int .i64 r5, .int .i64 r6], .bool r7]) ∧ Below w.heap.size w w' := by
 have hu28 := Try.underlying28
 have hu65 := Try.underlying65
 have HB := q04.mk (Below.refl w.heap.size w)
 have H : ((code_Field.f k a0_3 520).bind fun bt190 => (if 0 ≤ bt190.2.1 then (if bt190.2.1 ≤ (a0_3.size : Int) then ((code_Uint.f (a0_3.extract (bt190.2.1 : Int).toNat a0_3.size)).bind fun bt193 => (if 0 ≤ (wrap64 (bt190.2.1 + bt193.2.1)) then (if (wrap64 (bt190.2.1 + bt193.2.1)) ≤ (a0_3.size : Int) then ((code_Uint.f (a0_3.extract ((wrap64 (bt190.2.1 + bt193.2.1)) : Int).toNat a0_3.size)).bind fun bt196 => (if bt190.2.2 = 0 then (if bt193.2.2 = 0 then (if bt196.2.2 = 0 then (if (wrap64 ((wrap64 (bt190.2.1 + bt193.2.1)) + bt196.2.1)) = (a0_3.size : Int) then (if a0_2 = 1 then (if bt193.1 ≤ 262144 then (if bt196.1 ≥ 1 then (some (bt190.1, a0_0, a0_1, wrap64 (bt196.1), wrap64 (bt193.1), 0, decide (bt196.1 ≤ 1024))) else (some (bt190.1, a0_0, a0_1, wrap64 (bt196.1), wrap64 (bt193.1), 0, false))) else (some (bt190.1, a0_0, a0_1, wrap64 (bt196.1), wrap64 (bt193.1), 0, false))) else (some (bt190.1, a0_0, a0_1, wrap64 (bt196.1), wrap64 (bt193.1), 0, false))) else (some (bt190.1, a0_0, a0_1, wrap64 (bt196.1), wrap64 (bt193.1), 0, false))) else (some (bt190.1, a0_0, a0_1, wrap64 (bt196.1), wrap64 (bt193.1), 0, false))) else (some (bt190.1, a0_0, a0_1, wrap64 (bt196.1), wrap64 (bt193.1), 0, false))) else (some (bt190.1, a0_0, a0_1, wrap64 (bt196.1), wrap64 (bt193.1), 0, false)))) else (none)) else (none))) else (none)) else (none))) = some (r1, r2, r3, r4, r5, r6, r7) := h
 clear h
 replace H := Option.bind_eq_some_iff.mp H
 obtain ⟨⟨t190, t191, t192⟩, A20, H⟩ := H
 replace H : (if 0 ≤ t191 then (if t191 ≤ (a0_3.size : Int) then ((code_Uint.f (a0_3.extract (t191 : Int).toNat a0_3.size)).bind fun bt193 => (if 0 ≤ (wrap64 (t191 + bt193.2.1)) then (if (wrap64 (t191 + bt193.2.1)) ≤ (a0_3.size : Int) then ((code_Uint.f (a0_3.extract ((wrap64 (t191 + bt193.2.1)) : Int).toNat a0_3.size)).bind fun bt196 => (if t192 = 0 then (if bt193.2.2 = 0 then (if bt196.2.2 = 0 then (if (wrap64 ((wrap64 (t191 + bt193.2.1)) + bt196.2.1)) = (a0_3.size : Int) then (if a0_2 = 1 then (if bt193.1 ≤ 262144 then (if bt196.1 ≥ 1 then (some (t190, a0_0, a0_1, wrap64 (bt196.1), wrap64 (bt193.1), 0, decide (bt196.1 ≤ 1024))) else (some (t190, a0_0, a0_1, wrap64 (bt196.1), wrap64 (bt193.1), 0, false))) else (some (t190, a0_0, a0_1, wrap64 (bt196.1), wrap64 (bt193.1), 0, false))) else (some (t190, a0_0, a0_1, wrap64 (bt196.1), wrap64 (bt193.1), 0, false))) else (some (t190, a0_0, a0_1, wrap64 (bt196.1), wrap64 (bt193.1), 0, false))) else (some (t190, a0_0, a0_1, wrap64 (bt196.1), wrap64 (bt193.1), 0, false))) else (some (t190, a0_0, a0_1, wrap64 (bt196.1), wrap64 (bt193.1), 0, false))) else (some (t190, a0_0, a0_1, wrap64 (bt196.1), wrap64 (bt193.1), 0, false)))) else (none)) else (none))) else (none)) else (none)) = some (r1, r2, r3, r4, r5, r6, r7) := H
 have A2 := q04.mk A20
 clear A20
 by_cases c3 : 0 ≤ t191
 ·rw [if_pos c3] at H
  have c3b0 := eq_true c3
  have c3b1 : decide (0 ≤ t191) = true := decide_eq_true c3
  clear c3
  by_cases c4 : t191 ≤ (a0_3.size : Int)
  ·rw [if_pos c4] at H
   have c4b0 := eq_true c4
   have c4b1 : decide (t191 ≤ (a0_3.size : Int)) = true := decide_eq_true c4
   clear c4
   replace H := Option.bind_eq_some_iff.mp H
   obtain ⟨⟨t193, t194, t195⟩, A50, H⟩ := H
   replace H : (if 0 ≤ (wrap64 (t191 + t194)) then (if (wrap64 (t191 + t194)) ≤ (a0_3.size : Int) then ((code_Uint.f (a0_3.extract ((wrap64 (t191 + t194)) : Int).toNat a0_3.size)).bind fun bt196 => (if t192 = 0 then (if t195 = 0 then (if bt196.2.2 = 0 then (if (wrap64 ((wrap64 (t191 + t194)) + bt196.2.1)) = (a0_3.size : Int) then (if a0_2 = 1 then (if t193 ≤ 262144 then (if bt196.1 ≥ 1 then (some (t190, a0_0, a0_1, wrap64 (bt196.1), wrap64 (t193), 0, decide (bt196.1 ≤ 1024))) else (some (t190, a0_0, a0_1, wrap64 (bt196.1), wrap64 (t193), 0, false))) else (some (t190, a0_0, a0_1, wrap64 (bt196.1), wrap64 (t193), 0, false))) else (some (t190, a0_0, a0_1, wrap64 (bt196.1), wrap64 (t193), 0, false))) else (some (t190, a0_0, a0_1, wrap64 (bt196.1), wrap64 (t193), 0, false))) else (some (t190, a0_0, a0_1, wrap64 (bt196.1), wrap64 (t193), 0, false))) else (some (t190, a0_0, a0_1, wrap64 (bt196.1), wrap64 (t193), 0, false))) else (some (t190, a0_0, a0_1, wrap64 (bt196.1), wrap64 (t193), 0, false)))) else (none)) else (none)) = some (r1, r2, r3, r4, r5, r6, r7) := H
   have A5 := q04.mk A50
   clear A50
   obtain ⟨ji6, hji6⟩ : ∃ j_ : Int, (wrap64 (t191 + t194)) = j_ := ⟨_, rfl⟩
   replace H : (if 0 ≤ (ji6) then (if (ji6) ≤ (a0_3.size : Int) then ((code_Uint.f (a0_3.extract ((ji6) : Int).toNat a0_3.size)).bind fun bt196 => (if t192 = 0 then (if t195 = 0 then (if bt196.2.2 = 0 then (if (wrap64 ((ji6) + bt196.2.1)) = (a0_3.size : Int) then (if a0_2 = 1 then (if t193 ≤ 262144 then (if bt196.1 ≥ 1 then (some (t190, a0_0, a0_1, wrap64 (bt196.1), wrap64 (t193), 0, decide (bt196.1 ≤ 1024))) else (some (t190, a0_0, a0_1, wrap64 (bt196.1), wrap64 (t193), 0, false))) else (some (t190, a0_0, a0_1, wrap64 (bt196.1), wrap64 (t193), 0, false))) else (some (t190, a0_0, a0_1, wrap64 (bt196.1), wrap64 (t193), 0, false))) else (some (t190, a0_0, a0_1, wrap64 (bt196.1), wrap64 (t193), 0, false))) else (some (t190, a0_0, a0_1, wrap64 (bt196.1), wrap64 (t193), 0, false))) else (some (t190, a0_0, a0_1, wrap64 (bt196.1), wrap64 (t193), 0, false))) else (some (t190, a0_0, a0_1, wrap64 (bt196.1), wrap64 (t193), 0, false)))) else (none)) else (none)) = some (r1, r2, r3, r4, r5, r6, r7) := by first | (rw [hji6] at H; exact H) | (simp only [hji6] at H ⊢; exact H)
   (try rw [hji6] at A2)
   (try rw [hji6] at A5)
   have hji6w : (IntKind.i64.wrap (t191 + t194)) = ji6 := (i64_w _).trans hji6
   by_cases c7 : 0 ≤ (ji6)
   ·rw [if_pos c7] at H
    have c7b0 := eq_true c7
    have c7b1 : decide (0 ≤ (ji6)) = true := decide_eq_true c7
    clear c7
    by_cases c8 : (ji6) ≤ (a0_3.size : Int)
    ·rw [if_pos c8] at H
     have c8b0 := eq_true c8
     have c8b1 : decide ((ji6) ≤ (a0_3.size : Int)) = true := decide_eq_true c8
     clear c8
     replace H := Option.bind_eq_some_iff.mp H
     obtain ⟨⟨t196, t197, t198⟩, A90, H⟩ := H
     replace H : (if t192 = 0 then (if t195 = 0 then (if t198 = 0 then (if (wrap64 ((ji6) + t197)) = (a0_3.size : Int) then (if a0_2 = 1 then (if t193 ≤ 262144 then (if t196 ≥ 1 then (some (t190, a0_0, a0_1, wrap64 (t196), wrap64 (t193), 0, decide (t196 ≤ 1024))) else (some (t190, a0_0, a0_1, wrap64 (t196), wrap64 (t193), 0, false))) else (some (t190, a0_0, a0_1, wrap64 (t196), wrap64 (t193), 0, false))) else (some (t190, a0_0, a0_1, wrap64 (t196), wrap64 (t193), 0, false))) else (some (t190, a0_0, a0_1, wrap64 (t196), wrap64 (t193), 0, false))) else (some (t190, a0_0, a0_1, wrap64 (t196), wrap64 (t193), 0, false))) else (some (t190, a0_0, a0_1, wrap64 (t196), wrap64 (t193), 0, false))) else (some (t190, a0_0, a0_1, wrap64 (t196), wrap64 (t193), 0, false))) = some (r1, r2, r3, r4, r5, r6, r7) := H
     have A9 := q04.mk A90
     clear A90
     by_cases c10 : t192 = 0
     ·rw [if_pos c10] at H
      have c10b0 : (t192 == 0) = true := beq_iff_eq.mpr c10
      have c10b1 : (t192 != 0) = false := bne_eq_false_iff_eq.mpr c10
      clear c10
      by_cases c11 : t195 = 0
      ·rw [if_pos c11] at H
       have c11b0 : (t195 == 0) = true := beq_iff_eq.mpr c11
       have c11b1 : (t195 != 0) = false := bne_eq_false_iff_eq.mpr c11
       clear c11
       by_cases c12 : t198 = 0
       ·rw [if_pos c12] at H
        have c12b0 : (t198 == 0) = true := beq_iff_eq.mpr c12
        have c12b1 : (t198 != 0) = false := bne_eq_false_iff_eq.mpr c12
        clear c12
        by_cases c13 : (wrap64 ((ji6) + t197)) = (a0_3.size : Int)
        ·rw [if_pos c13] at H
         have c13b0 : ((wrap64 ((ji6) + t197)) == (a0_3.size : Int)) = true := beq_iff_eq.mpr c13
         have c13b1 : ((wrap64 ((ji6) + t197)) != (a0_3.size : Int)) = false := bne_eq_false_iff_eq.mpr c13
         clear c13
         by_cases c14 : a0_2 = 1
         ·rw [if_pos c14] at H
          have c14b0 : (a0_2 == 1) = true := beq_iff_eq.mpr c14
          have c14b1 : (a0_2 != 1) = false := bne_eq_false_iff_eq.mpr c14
          clear c14
          by_cases c15 : t193 ≤ 262144
          ·rw [if_pos c15] at H
           have c15b0 : decide (t193 ≤ 262144) = true := decide_eq_true c15
           clear c15
           by_cases c16 : t196 ≥ 1
           ·rw [if_pos c16] at H
            have c16b0 : decide (1 ≤ t196) = true := decide_eq_true c16
            clear c16
            simp only [Option.some.injEq, Prod.mk.injEq] at H
            obtain ⟨rfl, rfl, rfl, rfl, rfl, rfl, rfl⟩ := H
            go_enter Try.func44, Try.ntmps44
            go_wp2_with (first | ((with_reducible refine q0q (N := 1) rfl ?_); (try (refine q0s (by rfl) ?_; dsimp only)); refine q0p ?hg (N := 1) ?hd (cs := #[.string a0_0, .int .u64 a0_1, .int .i64 a0_2, .string a0_3]) (t := 28) ?hr ?_; (case hd => rfl); (case hg => rfl); (case hr => first | (go_simp; done) | (go_simp; rfl)); intro gb188 hg w17 hbox hb; have n0_ := q04.mk (q0a (by repeat (first | (with_reducible first | exact HB.out | apply q02 | apply q00 | apply q01) | exact HB.out)) hb); have n1_ := q04.mk (hbox); have n2_ := q04.mk ((by rw [hg]; exact (q0d (by repeat (first | (with_reducible first | exact HB.out | apply q02 | apply q00 | apply q01) | exact HB.out))) : w.heap.size ≤ gb188)); have n3_ := q04.mk ((by rw [hg]; exact (q0d (by repeat (first | (with_reducible first | exact HB.out | apply q02 | apply q00 | apply q01) | exact HB.out))) : w.heap.size ≤ gb188)); clear HB; have HB := n0_; have BK188 := n1_; have GW188 := n2_; have GE188 := n3_; clear n0_ n1_ n2_ n3_; clear hb hbox hg) | ((with_reducible refine q0q (N := 2) rfl ?_); (try (refine q0s (by rfl) ?_; dsimp only)); refine q0p ?hg (N := 2) ?hd (cs := #[.string (⟨#[]⟩ : ByteArray), .string (⟨#[]⟩ : ByteArray), .int .u64 0, .int .i64 0, .int .i64 0, .int .i64 0]) (t := 65) ?hr ?_; (case hd => rfl); (case hg => rfl); (case hr => first | (go_simp; done) | (go_simp; rfl)); intro gb189 hg w18 hbox hb; have n0_ := q04.mk (q0e (g := gb188) (o := .cells #[.string a0_0, .int .u64 a0_1, .int .i64 a0_2, .string a0_3] 28 (0, 0)) (by (with_reducible repeat (first | refine q07 ?_ _ | refine q08 ?_ | refine q06 ?_ _)); exact BK188.out) hb); have n1_ := q04.mk (q0a (by repeat (first | (with_reducible first | exact HB.out | apply q02 | apply q00 | apply q01 | refine q09 ?_ GE188.out) | exact HB.out)) hb); have n2_ := q04.mk (hbox); have n3_ := q04.mk ((by rw [hg]; exact (q0d (by repeat (first | (with_reducible first | exact HB.out | apply q02 | apply q00 | apply q01 | refine q09 ?_ GE188.out) | exact HB.out))) : w.heap.size ≤ gb189)); have n4_ := q04.mk ((by rw [hg]; exact (q0d (by repeat (first | (with_reducible first | exact HB.out | apply q02 | apply q00 | apply q01 | refine q09 ?_ GE188.out) | exact HB.out))) : w.heap.size ≤ gb189)); have n5_ := q04.mk ((by rw [hg]; exact Nat.ne_of_lt (q1g (g := gb188) (o := .cells #[.string a0_0, .int .u64 a0_1, .int .i64 a0_2, .string a0_3] 28 (0, 0)) (by (with_reducible repeat (first | refine q07 ?_ _ | refine q08 ?_ | refine q06 ?_ _)); exact BK188.out)) : gb188 ≠ gb189)); have n6_ := q04.mk ((by rw [hg]; exact Nat.ne_of_gt (q1g (g := gb188) (o := .cells #[.string a0_0, .int .u64 a0_1, .int .i64 a0_2, .string a0_3] 28 (0, 0)) (by (with_reducible repeat (first | refine q07 ?_ _ | refine q08 ?_ | refine q06 ?_ _)); exact BK188.out)) : gb189 ≠ gb188)); clear BK188; clear HB; have BK188 := n0_; have HB := n1_; have BK189 := n2_; have GW189 := n3_; have GE189 := n4_; have NB188_189 := n5_; have NB189_188 := n6_; clear n0_ n1_ n2_ n3_ n4_ n5_ n6_; clear hb hbox hg; have hnb19 := NB188_189.out; have hnc19 := NB189_188.out; have hcz20_0 : w18.cell? ⟨gb188, 0, none⟩ = some (.string a0_0) := (q03 BK188.out 0).trans rfl; have hcz20_1 : w18.cell? ⟨gb188, 1, none⟩ = some (.int .u64 a0_1) := (q03 BK188.out 1).trans rfl; have hcz20_2 : w18.cell? ⟨gb188, 2, none⟩ = some (.int .i64 a0_2) := (q03 BK188.out 2).trans rfl; have hcz20_3 : w18.cell? ⟨gb188, 3, none⟩ = some (.string a0_3) := (q03 BK188.out 3).trans rfl; have hfz20_0 := q05 BK188.out 0; have hfz20_1 := q05 BK188.out 1; have hfz20_2 := q05 BK188.out 2; have hfz20_3 := q05 BK188.out 3) | ((with_reducible refine q0h (f := 67) rfl ?_); refine q0r (some 17) rfl rfl Try.func67 (by kernel_rfl) rfl #[.string a0_3, .int .i64 520] rfl (by (try simp only [List.map_toArray, List.map_cons, List.map_nil]); first | done | rfl | (simp only [List.length_drop, List.length_take]; rfl)) ?_; (with_reducible refine (code_Field.calls k a0_3 520 t190 t191 t192 _ A2.out).mono ?_); rintro e w21 ⟨rfl, hb⟩; refine ⟨_, rfl, ?_⟩; have n0_ := q04.mk (q0e (g := gb188) (o := .cells #[.string a0_0, .int .u64 a0_1, .int .i64 a0_2, .string a0_3] 28 (0, 0)) (by (with_reducible repeat (first | refine q07 ?_ _ | refine q08 ?_ | refine q06 ?_ _)); exact BK188.out) hb); have n1_ := q04.mk (q0e (g := gb189) (o := .cells #[.string (⟨#[]⟩ : ByteArray), .string (⟨#[]⟩ : ByteArray), .int .u64 0, .int .i64 0, .int .i64 0, .int .i64 0] 65 (0, 0)) (by (with_reducible repeat (first | refine q07 ?_ _ | refine q08 ?_ | refine q06 ?_ _)); exact BK189.out) hb); have n2_ := q04.mk (q0a (by repeat (first | (with_reducible first | exact HB.out | apply q02 | apply q00 | apply q01 | refine q09 ?_ GE188.out | refine q09 ?_ GE189.out) | exact HB.out)) hb); clear BK188; clear BK189; clear HB; have BK188 := n0_; have BK189 := n1_; have HB := n2_; clear n0_ n1_ n2_; (try clear hb); (try clear hb2); (try clear hk); (try clear hi); have hcz22_0 : w21.cell? ⟨gb188, 0, none⟩ = some (.string a0_0) := (q03 BK188.out 0).trans rfl; have hcz22_1 : w21.cell? ⟨gb188, 1, none⟩ = some (.int .u64 a0_1) := (q03 BK188.out 1).trans rfl; have hcz22_2 : w21.cell? ⟨gb188, 2, none⟩ = some (.int .i64 a0_2) := (q03 BK188.out 2).trans rfl; have hcz22_3 : w21.cell? ⟨gb188, 3, none⟩ = some (.string a0_3) := (q03 BK188.out 3).trans rfl; have hfz22_0 := q05 BK188.out 0; have hfz22_1 := q05 BK188.out 1; have hfz22_2 := q05 BK188.out 2; have hfz22_3 := q05 BK188.out 3) | ((with_reducible refine q0h (f := 68) rfl ?_); refine q0r (some 26) rfl rfl Try.func68 (by kernel_rfl) rfl #[.string (a0_3.extract (t191 : Int).toNat a0_3.size)] rfl (by (try simp only [List.map_toArray, List.map_cons, List.map_nil]); first | done | rfl | (simp only [List.length_drop, List.length_take]; rfl)) ?_; (with_reducible refine (code_Uint.calls (a0_3.extract (t191 : Int).toNat a0_3.size) t193 t194 t195 _ A5.out).mono ?_); rintro e w23 ⟨rfl, hb⟩; refine ⟨_, rfl, ?_⟩; have n0_ := q04.mk (q0e (g := gb188) (o := .cells #[.string a0_0, .int .u64 a0_1, .int .i64 a0_2, .string a0_3] 28 (0, 0)) (by (with_reducible repeat (first | refine q07 ?_ _ | refine q08 ?_ | refine q06 ?_ _)); exact BK188.out) hb); have n1_ := q04.mk (q0e (g := gb189) (o := .cells #[.string (⟨#[]⟩ : ByteArray), .string (⟨#[]⟩ : ByteArray), .int .u64 0, .int .i64 0, .int .i64 0, .int .i64 0] 65 (0, 0)) (by (with_reducible repeat (first | refine q07 ?_ _ | refine q08 ?_ | refine q06 ?_ _)); exact BK189.out) hb); have n2_ := q04.mk (q0a (by repeat (first | (with_reducible first | exact HB.out | apply q02 | apply q00 | apply q01 | refine q09 ?_ GE188.out | refine q09 ?_ GE189.out) | exact HB.out)) hb); clear BK188; clear BK189; clear HB; have BK188 := n0_; have BK189 := n1_; have HB := n2_; clear n0_ n1_ n2_; (try clear hb); (try clear hb2); (try clear hk); (try clear hi); have hcz24_0 : w23.cell? ⟨gb188, 0, none⟩ = some (.string a0_0) := (q03 BK188.out 0).trans rfl; have hcz24_1 : w23.cell? ⟨gb188, 1, none⟩ = some (.int .u64 a0_1) := (q03 BK188.out 1).trans rfl; have hcz24_2 : w23.cell? ⟨gb188, 2, none⟩ = some (.int .i64 a0_2) := (q03 BK188.out 2).trans rfl; have hcz24_3 : w23.cell? ⟨gb188, 3, none⟩ = some (.string a0_3) := (q03 BK188.out 3).trans rfl; have hfz24_0 := q05 BK188.out 0; have hfz24_1 := q05 BK188.out 1; have hfz24_2 := q05 BK188.out 2; have hfz24_3 := q05 BK188.out 3) | ((with_reducible refine q0h (f := 68) rfl ?_); refine q0r (some 37) rfl rfl Try.func68 (by kernel_rfl) rfl #[.string (a0_3.extract ((ji6) : Int).toNat a0_3.size)] rfl (by (try simp only [List.map_toArray, List.map_cons, List.map_nil]); first | done | (simp only [hji6]; rfl) | rfl | (simp only [List.length_drop, List.length_take]; rfl)) ?_; (with_reducible refine (code_Uint.calls (a0_3.extract ((ji6) : Int).toNat a0_3.size) t196 t197 t198 _ A9.out).mono ?_); rintro e w25 ⟨rfl, hb⟩; refine ⟨_, rfl, ?_⟩; have n0_ := q04.mk (q0e (g := gb188) (o := .cells #[.string a0_0, .int .u64 a0_1, .int .i64 a0_2, .string a0_3] 28 (0, 0)) (by (with_reducible repeat (first | refine q07 ?_ _ | refine q08 ?_ | refine q06 ?_ _)); exact BK188.out) hb); have n1_ := q04.mk (q0e (g := gb189) (o := .cells #[.string (⟨#[]⟩ : ByteArray), .string (⟨#[]⟩ : ByteArray), .int .u64 0, .int .i64 0, .int .i64 0, .int .i64 0] 65 (0, 0)) (by (with_reducible repeat (first | refine q07 ?_ _ | refine q08 ?_ | refine q06 ?_ _)); exact BK189.out) hb); have n2_ := q04.mk (q0a (by repeat (first | (with_reducible first | exact HB.out | apply q02 | apply q00 | apply q01 | refine q09 ?_ GE188.out | refine q09 ?_ GE189.out) | exact HB.out)) hb); clear BK188; clear BK189; clear HB; have BK188 := n0_; have BK189 := n1_; have HB := n2_; clear n0_ n1_ n2_; (try clear hb); (try clear hb2); (try clear hk); (try clear hi); have hcz26_0 : w25.cell? ⟨gb188, 0, none⟩ = some (.string a0_0) := (q03 BK188.out 0).trans rfl; have hcz26_1 : w25.cell? ⟨gb188, 1, none⟩ = some (.int .u64 a0_1) := (q03 BK188.out 1).trans rfl; have hcz26_2 : w25.cell? ⟨gb188, 2, none⟩ = some (.int .i64 a0_2) := (q03 BK188.out 2).trans rfl; have hcz26_3 : w25.cell? ⟨gb188, 3, none⟩ = some (.string a0_3) := (q03 BK188.out 3).trans rfl; have hfz26_0 := q05 BK188.out 0; have hfz26_1 := q05 BK188.out 1; have hfz26_2 := q05 BK188.out 2; have hfz26_3 := q05 BK188.out 3; have hcz27_0 : w25.cell? ⟨gb189, 0, none⟩ = some (.string (⟨#[]⟩ : ByteArray)) := (q03 BK189.out 0).trans rfl; have hcz27_1 : w25.cell? ⟨gb189, 1, none⟩ = some (.string (⟨#[]⟩ : ByteArray)) := (q03 BK189.out 1).trans rfl; have hcz27_2 : w25.cell? ⟨gb189, 2, none⟩ = some (.int .u64 0) := (q03 BK189.out 2).trans rfl; have hcz27_3 : w25.cell? ⟨gb189, 3, none⟩ = some (.int .i64 0) := (q03 BK189.out 3).trans rfl; have hcz27_4 : w25.cell? ⟨gb189, 4, none⟩ = some (.int .i64 0) := (q03 BK189.out 4).trans rfl; have hcz27_5 : w25.cell? ⟨gb189, 5, none⟩ = some (.int .i64 0) := (q03 BK189.out 5).trans rfl; have hfz27_0 := q05 BK189.out 0; have hfz27_1 := q05 BK189.out 1; have hfz27_2 := q05 BK189.out 2; have hfz27_3 := q05 BK189.out 3; have hfz27_4 := q05 BK189.out 4; have hfz27_5 := q05 BK189.out 5))
            refine bodyPost_ret (q1e rfl _ _ gb189 65 #[.string t190, .string a0_0, .int .u64 a0_1, .int .i64 (wrap64 (t196)), .int .i64 (wrap64 (t193)), .int .i64 0] (0, 0) _ rfl (by (with_reducible repeat (first | refine q07 ?_ _ | refine q08 ?_ | refine q06 ?_ _)); refine q0k (cs := #[.string t190, .string a0_0, .int .u64 a0_1, .int .i64 (wrap64 (t196)), .int .i64 (wrap64 (t193)), .int .i64 0]) ?_ 5 _ rfl; (with_reducible repeat (first | refine q07 ?_ _ | refine q08 ?_ | refine q06 ?_ _)); refine q0k (cs := #[.string t190, .string a0_0, .int .u64 a0_1, .int .i64 (wrap64 (t196)), .int .i64 0, .int .i64 0]) ?_ 4 _ rfl; (with_reducible repeat (first | refine q07 ?_ _ | refine q08 ?_ | refine q06 ?_ _)); refine q0k (cs := #[.string t190, .string a0_0, .int .u64 a0_1, .int .i64 0, .int .i64 0, .int .i64 0]) ?_ 3 _ rfl; (with_reducible repeat (first | refine q07 ?_ _ | refine q08 ?_ | refine q06 ?_ _)); refine q0k (cs := #[.string t190, .string a0_0, .int .u64 0, .int .i64 0, .int .i64 0, .int .i64 0]) ?_ 2 _ rfl; (with_reducible repeat (first | refine q07 ?_ _ | refine q08 ?_ | refine q06 ?_ _)); refine q0k (cs := #[.string t190, .string (⟨#[]⟩ : ByteArray), .int .u64 0, .int .i64 0, .int .i64 0, .int .i64 0]) ?_ 1 _ rfl; (with_reducible repeat (first | refine q07 ?_ _ | refine q08 ?_ | refine q06 ?_ _)); refine q0k (cs := #[.string (⟨#[]⟩ : ByteArray), .string (⟨#[]⟩ : ByteArray), .int .u64 0, .int .i64 0, .int .i64 0, .int .i64 0]) ?_ 0 _ rfl; (with_reducible repeat (first | refine q07 ?_ _ | refine q08 ?_ | refine q06 ?_ _)); exact BK189.out) Try.underlying65 rfl (by kernel_rfl)) rfl ?_
            exact ⟨by first | rfl | (simp [q0c, q0b] <;> rfl) | (simp only [← hji6]; first | rfl | (simp [q0c, q0b] <;> rfl)) | (simp [*, q0c, q0b] <;> rfl), by repeat (first | (with_reducible first | exact HB.out | apply q02 | apply q00 | apply q01 | refine q09 ?_ GE188.out | refine q09 ?_ GE189.out) | exact HB.out)⟩
           ·rw [if_neg c16] at H
            have c16b0 : decide (1 ≤ t196) = false := decide_eq_false c16
            clear c16
            simp only [Option.some.injEq, Prod.mk.injEq] at H
            obtain ⟨rfl, rfl, rfl, rfl, rfl, rfl, rfl⟩ := H
            go_enter Try.func44, Try.ntmps44
            go_wp2_with (first | ((with_reducible refine q0q (N := 1) rfl ?_); (try (refine q0s (by rfl) ?_; dsimp only)); refine q0p ?hg (N := 1) ?hd (cs := #[.string a0_0, .int .u64 a0_1, .int .i64 a0_2, .string a0_3]) (t := 28) ?hr ?_; (case hd => rfl); (case hg => rfl); (case hr => first | (go_simp; done) | (go_simp; rfl)); intro gb188 hg w28 hbox hb; have n0_ := q04.mk (q0a (by repeat (first | (with_reducible first | exact HB.out | apply q02 | apply q00 | apply q01) | exact HB.out)) hb); have n1_ := q04.mk (hbox); have n2_ := q04.mk ((by rw [hg]; exact (q0d (by repeat (first | (with_reducible first | exact HB.out | apply q02 | apply q00 | apply q01) | exact HB.out))) : w.heap.size ≤ gb188)); have n3_ := q04.mk ((by rw [hg]; exact (q0d (by repeat (first | (with_reducible first | exact HB.out | apply q02 | apply q00 | apply q01) | exact HB.out))) : w.heap.size ≤ gb188)); clear HB; have HB := n0_; have BK188 := n1_; have GW188 := n2_; have GE188 := n3_; clear n0_ n1_ n2_ n3_; clear hb hbox hg) | ((with_reducible refine q0q (N := 2) rfl ?_); (try (refine q0s (by rfl) ?_; dsimp only)); refine q0p ?hg (N := 2) ?hd (cs := #[.string (⟨#[]⟩ : ByteArray), .string (⟨#[]⟩ : ByteArray), .int .u64 0, .int .i64 0, .int .i64 0, .int .i64 0]) (t := 65) ?hr ?_; (case hd => rfl); (case hg => rfl); (case hr => first | (go_simp; done) | (go_simp; rfl)); intro gb189 hg w29 hbox hb; have n0_ := q04.mk (q0e (g := gb188) (o := .cells #[.string a0_0, .int .u64 a0_1, .int .i64 a0_2, .string a0_3] 28 (0, 0)) (by (with_reducible repeat (first | refine q07 ?_ _ | refine q08 ?_ | refine q06 ?_ _)); exact BK188.out) hb); have n1_ := q04.mk (q0a (by repeat (first | (with_reducible first | exact HB.out | apply q02 | apply q00 | apply q01 | refine q09 ?_ GE188.out) | exact HB.out)) hb); have n2_ := q04.mk (hbox); have n3_ := q04.mk ((by rw [hg]; exact (q0d (by repeat (first | (with_reducible first | exact HB.out | apply q02 | apply q00 | apply q01 | refine q09 ?_ GE188.out) | exact HB.out))) : w.heap.size ≤ gb189)); have n4_ := q04.mk ((by rw [hg]; exact (q0d (by repeat (first | (with_reducible first | exact HB.out | apply q02 | apply q00 | apply q01 | refine q09 ?_ GE188.out) | exact HB.out))) : w.heap.size ≤ gb189)); have n5_ := q04.mk ((by rw [hg]; exact Nat.ne_of_lt (q1g (g := gb188) (o := .cells #[.string a0_0, .int .u64 a0_1, .int .i64 a0_2, .string a0_3] 28 (0, 0)) (by (with_reducible repeat (first | refine q07 ?_ _ | refine q08 ?_ | refine q06 ?_ _)); exact BK188.out)) : gb188 ≠ gb189)); have n6_ := q04.mk ((by rw [hg]; exact Nat.ne_of_gt (q1g (g := gb188) (o := .cells #[.string a0_0, .int .u64 a0_1, .int .i64 a0_2, .string a0_3] 28 (0, 0)) (by (with_reducible repeat (first | refine q07 ?_ _ | refine q08 ?_ | refine q06 ?_ _)); exact BK188.out)) : gb189 ≠ gb188)); clear BK188; clear HB; have BK188 := n0_; have HB := n1_; have BK189 := n2_; have GW189 := n3_; have GE189 := n4_; have NB188_189 := n5_; have NB189_188 := n6_; clear n0_ n1_ n2_ n3_ n4_ n5_ n6_; clear hb hbox hg; have hnb30 := NB188_189.out; have hnc30 := NB189_188.out; have hcz31_0 : w29.cell? ⟨gb188, 0, none⟩ = some (.string a0_0) := (q03 BK188.out 0).trans rfl; have hcz31_1 : w29.cell? ⟨gb188, 1, none⟩ = some (.int .u64 a0_1) := (q03 BK188.out 1).trans rfl; have hcz31_2 : w29.cell? ⟨gb188, 2, none⟩ = some (.int .i64 a0_2) := (q03 BK188.out 2).trans rfl; have hcz31_3 : w29.cell? ⟨gb188, 3, none⟩ = some (.string a0_3) := (q03 BK188.out 3).trans rfl; have hfz31_0 := q05 BK188.out 0; have hfz31_1 := q05 BK188.out 1; have hfz31_2 := q05 BK188.out 2; have hfz31_3 := q05 BK188.out 3) | ((with_reducible refine q0h (f := 67) rfl ?_); refine q0r (some 17) rfl rfl Try.func67 (by kernel_rfl) rfl #[.string a0_3, .int .i64 520] rfl (by (try simp only [List.map_toArray, List.map_cons, List.map_nil]); first | done | rfl | (simp only [List.length_drop, List.length_take]; rfl)) ?_; (with_reducible refine (code_Field.calls k a0_3 520 t190 t191 t192 _ A2.out).mono ?_); rintro e w32 ⟨rfl, hb⟩; refine ⟨_, rfl, ?_⟩; have n0_ := q04.mk (q0e (g := gb188) (o := .cells #[.string a0_0, .int .u64 a0_1, .int .i64 a0_2, .string a0_3] 28 (0, 0)) (by (with_reducible repeat (first | refine q07 ?_ _ | refine q08 ?_ | refine q06 ?_ _)); exact BK188.out) hb); have n1_ := q04.mk (q0e (g := gb189) (o := .cells #[.string (⟨#[]⟩ : ByteArray), .string (⟨#[]⟩ : ByteArray), .int .u64 0, .int .i64 0, .int .i64 0, .int .i64 0] 65 (0, 0)) (by (with_reducible repeat (first | refine q07 ?_ _ | refine q08 ?_ | refine q06 ?_ _)); exact BK189.out) hb); have n2_ := q04.mk (q0a (by repeat (first | (with_reducible first | exact HB.out | apply q02 | apply q00 | apply q01 | refine q09 ?_ GE188.out | refine q09 ?_ GE189.out) | exact HB.out)) hb); clear BK188; clear BK189; clear HB; have BK188 := n0_; have BK189 := n1_; have HB := n2_; clear n0_ n1_ n2_; (try clear hb); (try clear hb2); (try clear hk); (try clear hi); have hcz33_0 : w32.cell? ⟨gb188, 0, none⟩ = some (.string a0_0) := (q03 BK188.out 0).trans rfl; have hcz33_1 : w32.cell? ⟨gb188, 1, none⟩ = some (.int .u64 a0_1) := (q03 BK188.out 1).trans rfl; have hcz33_2 : w32.cell? ⟨gb188, 2, none⟩ = some (.int .i64 a0_2) := (q03 BK188.out 2).trans rfl; have hcz33_3 : w32.cell? ⟨gb188, 3, none⟩ = some (.string a0_3) := (q03 BK188.out 3).trans rfl; have hfz33_0 := q05 BK188.out 0; have hfz33_1 := q05 BK188.out 1; have hfz33_2 := q05 BK188.out 2; have hfz33_3 := q05 BK188.out 3) | ((with_reducible refine q0h (f := 68) rfl ?_); refine q0r (some 26) rfl rfl Try.func68 (by kernel_rfl) rfl #[.string (a0_3.extract (t191 : Int).toNat a0_3.size)] rfl (by (try simp only [List.map_toArray, List.map_cons, List.map_nil]); first | done | rfl | (simp only [List.length_drop, List.length_take]; rfl)) ?_; (with_reducible refine (code_Uint.calls (a0_3.extract (t191 : Int).toNat a0_3.size) t193 t194 t195 _ A5.out).mono ?_); rintro e w34 ⟨rfl, hb⟩; refine ⟨_, rfl, ?_⟩; have n0_ := q04.mk (q0e (g := gb188) (o := .cells #[.string a0_0, .int .u64 a0_1, .int .i64 a0_2, .string a0_3] 28 (0, 0)) (by (with_reducible repeat (first | refine q07 ?_ _ | refine q08 ?_ | refine q06 ?_ _)); exact BK188.out) hb); have n1_ := q04.mk (q0e (g := gb189) (o := .cells #[.string (⟨#[]⟩ : ByteArray), .string (⟨#[]⟩ : ByteArray), .int .u64 0, .int .i64 0, .int .i64 0, .int .i64 0] 65 (0, 0)) (by (with_reducible repeat (first | refine q07 ?_ _ | refine q08 ?_ | refine q06 ?_ _)); exact BK189.out) hb); have n2_ := q04.mk (q0a (by repeat (first | (with_reducible first | exact HB.out | apply q02 | apply q00 | apply q01 | refine q09 ?_ GE188.out | refine q09 ?_ GE189.out) | exact HB.out)) hb); clear BK188; clear BK189; clear HB; have BK188 := n0_; have BK189 := n1_; have HB := n2_; clear n0_ n1_ n2_; (try clear hb); (try clear hb2); (try clear hk); (try clear hi); have hcz35_0 : w34.cell? ⟨gb188, 0, none⟩ = some (.string a0_0) := (q03 BK188.out 0).trans rfl; have hcz35_1 : w34.cell? ⟨gb188, 1, none⟩ = some (.int .u64 a0_1) := (q03 BK188.out 1).trans rfl; have hcz35_2 : w34.cell? ⟨gb188, 2, none⟩ = some (.int .i64 a0_2) := (q03 BK188.out 2).trans rfl; have hcz35_3 : w34.cell? ⟨gb188, 3, none⟩ = some (.string a0_3) := (q03 BK188.out 3).trans rfl; have hfz35_0 := q05 BK188.out 0; have hfz35_1 := q05 BK188.out 1; have hfz35_2 := q05 BK188.out 2; have hfz35_3 := q05 BK188.out 3) | ((with_reducible refine q0h (f := 68) rfl ?_); refine q0r (some 37) rfl rfl Try.func68 (by kernel_rfl) rfl #[.string (a0_3.extract ((ji6) : Int).toNat a0_3.size)] rfl (by (try simp only [List.map_toArray, List.map_cons, List.map_nil]); first | done | (simp only [hji6]; rfl) | rfl | (simp only [List.length_drop, List.length_take]; rfl)) ?_; (with_reducible refine (code_Uint.calls (a0_3.extract ((ji6) : Int).toNat a0_3.size) t196 t197 t198 _ A9.out).mono ?_); rintro e w36 ⟨rfl, hb⟩; refine ⟨_, rfl, ?_⟩; have n0_ := q04.mk (q0e (g := gb188) (o := .cells #[.string a0_0, .int .u64 a0_1, .int .i64 a0_2, .string a0_3] 28 (0, 0)) (by (with_reducible repeat (first | refine q07 ?_ _ | refine q08 ?_ | refine q06 ?_ _)); exact BK188.out) hb); have n1_ := q04.mk (q0e (g := gb189) (o := .cells #[.string (⟨#[]⟩ : ByteArray), .string (⟨#[]⟩ : ByteArray), .int .u64 0, .int .i64 0, .int .i64 0, .int .i64 0] 65 (0, 0)) (by (with_reducible repeat (first | refine q07 ?_ _ | refine q08 ?_ | refine q06 ?_ _)); exact BK189.out) hb); have n2_ := q04.mk (q0a (by repeat (first | (with_reducible first | exact HB.out | apply q02 | apply q00 | apply q01 | refine q09 ?_ GE188.out | refine q09 ?_ GE189.out) | exact HB.out)) hb); clear BK188; clear BK189; clear HB; have BK188 := n0_; have BK189 := n1_; have HB := n2_; clear n0_ n1_ n2_; (try clear hb); (try clear hb2); (try clear hk); (try clear hi); have hcz37_0 : w36.cell? ⟨gb188, 0, none⟩ = some (.string a0_0) := (q03 BK188.out 0).trans rfl; have hcz37_1 : w36.cell? ⟨gb188, 1, none⟩ = some (.int .u64 a0_1) := (q03 BK188.out 1).trans rfl; have hcz37_2 : w36.cell? ⟨gb188, 2, none⟩ = some (.int .i64 a0_2) := (q03 BK188.out 2).trans rfl; have hcz37_3 : w36.cell? ⟨gb188, 3, none⟩ = some (.string a0_3) := (q03 BK188.out 3).trans rfl; have hfz37_0 := q05 BK188.out 0; have hfz37_1 := q05 BK188.out 1; have hfz37_2 := q05 BK188.out 2; have hfz37_3 := q05 BK188.out 3; have hcz38_0 : w36.cell? ⟨gb189, 0, none⟩ = some (.string (⟨#[]⟩ : ByteArray)) := (q03 BK189.out 0).trans rfl; have hcz38_1 : w36.cell? ⟨gb189, 1, none⟩ = some (.string (⟨#[]⟩ : ByteArray)) := (q03 BK189.out 1).trans rfl; have hcz38_2 : w36.cell? ⟨gb189, 2, none⟩ = some (.int .u64 0) := (q03 BK189.out 2).trans rfl; have hcz38_3 : w36.cell? ⟨gb189, 3, none⟩ = some (.int .i64 0) := (q03 BK189.out 3).trans rfl; have hcz38_4 : w36.cell? ⟨gb189, 4, none⟩ = some (.int .i64 0) := (q03 BK189.out 4).trans rfl; have hcz38_5 : w36.cell? ⟨gb189, 5, none⟩ = some (.int .i64 0) := (q03 BK189.out 5).trans rfl; have hfz38_0 := q05 BK189.out 0; have hfz38_1 := q05 BK189.out 1; have hfz38_2 := q05 BK189.out 2; have hfz38_3 := q05 BK189.out 3; have hfz38_4 := q05 BK189.out 4; have hfz38_5 := q05 BK189.out 5))
            refine bodyPost_ret (q1e rfl _ _ gb189 65 #[.string t190, .string a0_0, .int .u64 a0_1, .int .i64 (wrap64 (t196)), .int .i64 (wrap64 (t193)), .int .i64 0] (0, 0) _ rfl (by (with_reducible repeat (first | refine q07 ?_ _ | refine q08 ?_ | refine q06 ?_ _)); refine q0k (cs := #[.string t190, .string a0_0, .int .u64 a0_1, .int .i64 (wrap64 (t196)), .int .i64 (wrap64 (t193)), .int .i64 0]) ?_ 5 _ rfl; (with_reducible repeat (first | refine q07 ?_ _ | refine q08 ?_ | refine q06 ?_ _)); refine q0k (cs := #[.string t190, .string a0_0, .int .u64 a0_1, .int .i64 (wrap64 (t196)), .int .i64 0, .int .i64 0]) ?_ 4 _ rfl; (with_reducible repeat (first | refine q07 ?_ _ | refine q08 ?_ | refine q06 ?_ _)); refine q0k (cs := #[.string t190, .string a0_0, .int .u64 a0_1, .int .i64 0, .int .i64 0, .int .i64 0]) ?_ 3 _ rfl; (with_reducible repeat (first | refine q07 ?_ _ | refine q08 ?_ | refine q06 ?_ _)); refine q0k (cs := #[.string t190, .string a0_0, .int .u64 0, .int .i64 0, .int .i64 0, .int .i64 0]) ?_ 2 _ rfl; (with_reducible repeat (first | refine q07 ?_ _ | refine q08 ?_ | refine q06 ?_ _)); refine q0k (cs := #[.string t190, .string (⟨#[]⟩ : ByteArray), .int .u64 0, .int .i64 0, .int .i64 0, .int .i64 0]) ?_ 1 _ rfl; (with_reducible repeat (first | refine q07 ?_ _ | refine q08 ?_ | refine q06 ?_ _)); refine q0k (cs := #[.string (⟨#[]⟩ : ByteArray), .string (⟨#[]⟩ : ByteArray), .int .u64 0, .int .i64 0, .int .i64 0, .int .i64 0]) ?_ 0 _ rfl; (with_reducible repeat (first | refine q07 ?_ _ | refine q08 ?_ | refine q06 ?_ _)); exact BK189.out) Try.underlying65 rfl (by kernel_rfl)) rfl ?_
            exact ⟨by first | rfl | (simp [q0c, q0b] <;> rfl) | (simp only [← hji6]; first | rfl | (simp [q0c, q0b] <;> rfl)) | (simp [*, q0c, q0b] <;> rfl), by repeat (first | (with_reducible first | exact HB.out | apply q02 | apply q00 | apply q01 | refine q09 ?_ GE188.out | refine q09 ?_ GE189.out) | exact HB.out)⟩
          ·rw [if_neg c15] at H
           have c15b0 : decide (t193 ≤ 262144) = false := decide_eq_false c15
           clear c15
           simp only [Option.some.injEq, Prod.mk.injEq] at H
           obtain ⟨rfl, rfl, rfl, rfl, rfl, rfl, rfl⟩ := H
           go_enter Try.func44, Try.ntmps44
           go_wp2_with (first | ((with_reducible refine q0q (N := 1) rfl ?_); (try (refine q0s (by rfl) ?_; dsimp only)); refine q0p ?hg (N := 1) ?hd (cs := #[.string a0_0, .int .u64 a0_1, .int .i64 a0_2, .string a0_3]) (t := 28) ?hr ?_; (case hd => rfl); (case hg => rfl); (case hr => first | (go_simp; done) | (go_simp; rfl)); intro gb188 hg w39 hbox hb; have n0_ := q04.mk (q0a (by repeat (first | (with_reducible first | exact HB.out | apply q02 | apply q00 | apply q01) | exact HB.out)) hb); have n1_ := q04.mk (hbox); have n2_ := q04.mk ((by rw [hg]; exact (q0d (by repeat (first | (with_reducible first | exact HB.out | apply q02 | apply q00 | apply q01) | exact HB.out))) : w.heap.size ≤ gb188)); have n3_ := q04.mk ((by rw [hg]; exact (q0d (by repeat (first | (with_reducible first | exact HB.out | apply q02 | apply q00 | apply q01) | exact HB.out))) : w.heap.size ≤ gb188)); clear HB; have HB := n0_; have BK188 := n1_; have GW188 := n2_; have GE188 := n3_; clear n0_ n1_ n2_ n3_; clear hb hbox hg) | ((with_reducible refine q0q (N := 2) rfl ?_); (try (refine q0s (by rfl) ?_; dsimp only)); refine q0p ?hg (N := 2) ?hd (cs := #[.string (⟨#[]⟩ : ByteArray), .string (⟨#[]⟩ : ByteArray), .int .u64 0, .int .i64 0, .int .i64 0, .int .i64 0]) (t := 65) ?hr ?_; (case hd => rfl); (case hg => rfl); (case hr => first | (go_simp; done) | (go_simp; rfl)); intro gb189 hg w40 hbox hb; have n0_ := q04.mk (q0e (g := gb188) (o := .cells #[.string a0_0, .int .u64 a0_1, .int .i64 a0_2, .string a0_3] 28 (0, 0)) (by (with_reducible repeat (first | refine q07 ?_ _ | refine q08 ?_ | refine q06 ?_ _)); exact BK188.out) hb); have n1_ := q04.mk (q0a (by repeat (first | (with_reducible first | exact HB.out | apply q02 | apply q00 | apply q01 | refine q09 ?_ GE188.out) | exact HB.out)) hb); have n2_ := q04.mk (hbox); have n3_ := q04.mk ((by rw [hg]; exact (q0d (by repeat (first | (with_reducible first | exact HB.out | apply q02 | apply q00 | apply q01 | refine q09 ?_ GE188.out) | exact HB.out))) : w.heap.size ≤ gb189)); have n4_ := q04.mk ((by rw [hg]; exact (q0d (by repeat (first | (with_reducible first | exact HB.out | apply q02 | apply q00 | apply q01 | refine q09 ?_ GE188.out) | exact HB.out))) : w.heap.size ≤ gb189)); have n5_ := q04.mk ((by rw [hg]; exact Nat.ne_of_lt (q1g (g := gb188) (o := .cells #[.string a0_0, .int .u64 a0_1, .int .i64 a0_2, .string a0_3] 28 (0, 0)) (by (with_reducible repeat (first | refine q07 ?_ _ | refine q08 ?_ | refine q06 ?_ _)); exact BK188.out)) : gb188 ≠ gb189)); have n6_ := q04.mk ((by rw [hg]; exact Nat.ne_of_gt (q1g (g := gb188) (o := .cells #[.string a0_0, .int .u64 a0_1, .int .i64 a0_2, .string a0_3] 28 (0, 0)) (by (with_reducible repeat (first | refine q07 ?_ _ | refine q08 ?_ | refine q06 ?_ _)); exact BK188.out)) : gb189 ≠ gb188)); clear BK188; clear HB; have BK188 := n0_; have HB := n1_; have BK189 := n2_; have GW189 := n3_; have GE189 := n4_; have NB188_189 := n5_; have NB189_188 := n6_; clear n0_ n1_ n2_ n3_ n4_ n5_ n6_; clear hb hbox hg; have hnb41 := NB188_189.out; have hnc41 := NB189_188.out; have hcz42_0 : w40.cell? ⟨gb188, 0, none⟩ = some (.string a0_0) := (q03 BK188.out 0).trans rfl; have hcz42_1 : w40.cell? ⟨gb188, 1, none⟩ = some (.int .u64 a0_1) := (q03 BK188.out 1).trans rfl; have hcz42_2 : w40.cell? ⟨gb188, 2, none⟩ = some (.int .i64 a0_2) := (q03 BK188.out 2).trans rfl; have hcz42_3 : w40.cell? ⟨gb188, 3, none⟩ = some (.string a0_3) := (q03 BK188.out 3).trans rfl; have hfz42_0 := q05 BK188.out 0; have hfz42_1 := q05 BK188.out 1; have hfz42_2 := q05 BK188.out 2; have hfz42_3 := q05 BK188.out 3) | ((with_reducible refine q0h (f := 67) rfl ?_); refine q0r (some 17) rfl rfl Try.func67 (by kernel_rfl) rfl #[.string a0_3, .int .i64 520] rfl (by (try simp only [List.map_toArray, List.map_cons, List.map_nil]); first | done | rfl | (simp only [List.length_drop, List.length_take]; rfl)) ?_; (with_reducible refine (code_Field.calls k a0_3 520 t190 t191 t192 _ A2.out).mono ?_); rintro e w43 ⟨rfl, hb⟩; refine ⟨_, rfl, ?_⟩; have n0_ := q04.mk (q0e (g := gb188) (o := .cells #[.string a0_0, .int .u64 a0_1, .int .i64 a0_2, .string a0_3] 28 (0, 0)) (by (with_reducible repeat (first | refine q07 ?_ _ | refine q08 ?_ | refine q06 ?_ _)); exact BK188.out) hb); have n1_ := q04.mk (q0e (g := gb189) (o := .cells #[.string (⟨#[]⟩ : ByteArray), .string (⟨#[]⟩ : ByteArray), .int .u64 0, .int .i64 0, .int .i64 0, .int .i64 0] 65 (0, 0)) (by (with_reducible repeat (first | refine q07 ?_ _ | refine q08 ?_ | refine q06 ?_ _)); exact BK189.out) hb); have n2_ := q04.mk (q0a (by repeat (first | (with_reducible first | exact HB.out | apply q02 | apply q00 | apply q01 | refine q09 ?_ GE188.out | refine q09 ?_ GE189.out) | exact HB.out)) hb); clear BK188; clear BK189; clear HB; have BK188 := n0_; have BK189 := n1_; have HB := n2_; clear n0_ n1_ n2_; (try clear hb); (try clear hb2); (try clear hk); (try clear hi); have hcz44_0 : w43.cell? ⟨gb188, 0, none⟩ = some (.string a0_0) := (q03 BK188.out 0).trans rfl; have hcz44_1 : w43.cell? ⟨gb188, 1, none⟩ = some (.int .u64 a0_1) := (q03 BK188.out 1).trans rfl; have hcz44_2 : w43.cell? ⟨gb188, 2, none⟩ = some (.int .i64 a0_2) := (q03 BK188.out 2).trans rfl; have hcz44_3 : w43.cell? ⟨gb188, 3, none⟩ = some (.string a0_3) := (q03 BK188.out 3).trans rfl; have hfz44_0 := q05 BK188.out 0; have hfz44_1 := q05 BK188.out 1; have hfz44_2 := q05 BK188.out 2; have hfz44_3 := q05 BK188.out 3) | ((with_reducible refine q0h (f := 68) rfl ?_); refine q0r (some 26) rfl rfl Try.func68 (by kernel_rfl) rfl #[.string (a0_3.extract (t191 : Int).toNat a0_3.size)] rfl (by (try simp only [List.map_toArray, List.map_cons, List.map_nil]); first | done | rfl | (simp only [List.length_drop, List.length_take]; rfl)) ?_; (with_reducible refine (code_Uint.calls (a0_3.extract (t191 : Int).toNat a0_3.size) t193 t194 t195 _ A5.out).mono ?_); rintro e w45 ⟨rfl, hb⟩; refine ⟨_, rfl, ?_⟩; have n0_ := q04.mk (q0e (g := gb188) (o := .cells #[.string a0_0, .int .u64 a0_1, .int .i64 a0_2, .string a0_3] 28 (0, 0)) (by (with_reducible repeat (first | refine q07 ?_ _ | refine q08 ?_ | refine q06 ?_ _)); exact BK188.out) hb); have n1_ := q04.mk (q0e (g := gb189) (o := .cells #[.string (⟨#[]⟩ : ByteArray), .string (⟨#[]⟩ : ByteArray), .int .u64 0, .int .i64 0, .int .i64 0, .int .i64 0] 65 (0, 0)) (by (with_reducible repeat (first | refine q07 ?_ _ | refine q08 ?_ | refine q06 ?_ _)); exact BK189.out) hb); have n2_ := q04.mk (q0a (by repeat (first | (with_reducible first | exact HB.out | apply q02 | apply q00 | apply q01 | refine q09 ?_ GE188.out | refine q09 ?_ GE189.out) | exact HB.out)) hb); clear BK188; clear BK189; clear HB; have BK188 := n0_; have BK189 := n1_; have HB := n2_; clear n0_ n1_ n2_; (try clear hb); (try clear hb2); (try clear hk); (try clear hi); have hcz46_0 : w45.cell? ⟨gb188, 0, none⟩ = some (.string a0_0) := (q03 BK188.out 0).trans rfl; have hcz46_1 : w45.cell? ⟨gb188, 1, none⟩ = some (.int .u64 a0_1) := (q03 BK188.out 1).trans rfl; have hcz46_2 : w45.cell? ⟨gb188, 2, none⟩ = some (.int .i64 a0_2) := (q03 BK188.out 2).trans rfl; have hcz46_3 : w45.cell? ⟨gb188, 3, none⟩ = some (.string a0_3) := (q03 BK188.out 3).trans rfl; have hfz46_0 := q05 BK188.out 0; have hfz46_1 := q05 BK188.out 1; have hfz46_2 := q05 BK188.out 2; have hfz46_3 := q05 BK188.out 3) | ((with_reducible refine q0h (f := 68) rfl ?_); refine q0r (some 37) rfl rfl Try.func68 (by kernel_rfl) rfl #[.string (a0_3.extract ((ji6) : Int).toNat a0_3.size)] rfl (by (try simp only [List.map_toArray, List.map_cons, List.map_nil]); first | done | (simp only [hji6]; rfl) | rfl | (simp only [List.length_drop, List.length_take]; rfl)) ?_; (with_reducible refine (code_Uint.calls (a0_3.extract ((ji6) : Int).toNat a0_3.size) t196 t197 t198 _ A9.out).mono ?_); rintro e w47 ⟨rfl, hb⟩; refine ⟨_, rfl, ?_⟩; have n0_ := q04.mk (q0e (g := gb188) (o := .cells #[.string a0_0, .int .u64 a0_1, .int .i64 a0_2, .string a0_3] 28 (0, 0)) (by (with_reducible repeat (first | refine q07 ?_ _ | refine q08 ?_ | refine q06 ?_ _)); exact BK188.out) hb); have n1_ := q04.mk (q0e (g := gb189) (o := .cells #[.string (⟨#[]⟩ : ByteArray), .string (⟨#[]⟩ : ByteArray), .int .u64 0, .int .i64 0, .int .i64 0, .int .i64 0] 65 (0, 0)) (by (with_reducible repeat (first | refine q07 ?_ _ | refine q08 ?_ | refine q06 ?_ _)); exact BK189.out) hb); have n2_ := q04.mk (q0a (by repeat (first | (with_reducible first | exact HB.out | apply q02 | apply q00 | apply q01 | refine q09 ?_ GE188.out | refine q09 ?_ GE189.out) | exact HB.out)) hb); clear BK188; clear BK189; clear HB; have BK188 := n0_; have BK189 := n1_; have HB := n2_; clear n0_ n1_ n2_; (try clear hb); (try clear hb2); (try clear hk); (try clear hi); have hcz48_0 : w47.cell? ⟨gb188, 0, none⟩ = some (.string a0_0) := (q03 BK188.out 0).trans rfl; have hcz48_1 : w47.cell? ⟨gb188, 1, none⟩ = some (.int .u64 a0_1) := (q03 BK188.out 1).trans rfl; have hcz48_2 : w47.cell? ⟨gb188, 2, none⟩ = some (.int .i64 a0_2) := (q03 BK188.out 2).trans rfl; have hcz48_3 : w47.cell? ⟨gb188, 3, none⟩ = some (.string a0_3) := (q03 BK188.out 3).trans rfl; have hfz48_0 := q05 BK188.out 0; have hfz48_1 := q05 BK188.out 1; have hfz48_2 := q05 BK188.out 2; have hfz48_3 := q05 BK188.out 3; have hcz49_0 : w47.cell? ⟨gb189, 0, none⟩ = some (.string (⟨#[]⟩ : ByteArray)) := (q03 BK189.out 0).trans rfl; have hcz49_1 : w47.cell? ⟨gb189, 1, none⟩ = some (.string (⟨#[]⟩ : ByteArray)) := (q03 BK189.out 1).trans rfl; have hcz49_2 : w47.cell? ⟨gb189, 2, none⟩ = some (.int .u64 0) := (q03 BK189.out 2).trans rfl; have hcz49_3 : w47.cell? ⟨gb189, 3, none⟩ = some (.int .i64 0) := (q03 BK189.out 3).trans rfl; have hcz49_4 : w47.cell? ⟨gb189, 4, none⟩ = some (.int .i64 0) := (q03 BK189.out 4).trans rfl; have hcz49_5 : w47.cell? ⟨gb189, 5, none⟩ = some (.int .i64 0) := (q03 BK189.out 5).trans rfl; have hfz49_0 := q05 BK189.out 0; have hfz49_1 := q05 BK189.out 1; have hfz49_2 := q05 BK189.out 2; have hfz49_3 := q05 BK189.out 3; have hfz49_4 := q05 BK189.out 4; have hfz49_5 := q05 BK189.out 5))
           refine bodyPost_ret (q1e rfl _ _ gb189 65 #[.string t190, .string a0_0, .int .u64 a0_1, .int .i64 (wrap64 (t196)), .int .i64 (wrap64 (t193)), .int .i64 0] (0, 0) _ rfl (by (with_reducible repeat (first | refine q07 ?_ _ | refine q08 ?_ | refine q06 ?_ _)); refine q0k (cs := #[.string t190, .string a0_0, .int .u64 a0_1, .int .i64 (wrap64 (t196)), .int .i64 (wrap64 (t193)), .int .i64 0]) ?_ 5 _ rfl; (with_reducible repeat (first | refine q07 ?_ _ | refine q08 ?_ | refine q06 ?_ _)); refine q0k (cs := #[.string t190, .string a0_0, .int .u64 a0_1, .int .i64 (wrap64 (t196)), .int .i64 0, .int .i64 0]) ?_ 4 _ rfl; (with_reducible repeat (first | refine q07 ?_ _ | refine q08 ?_ | refine q06 ?_ _)); refine q0k (cs := #[.string t190, .string a0_0, .int .u64 a0_1, .int .i64 0, .int .i64 0, .int .i64 0]) ?_ 3 _ rfl; (with_reducible repeat (first | refine q07 ?_ _ | refine q08 ?_ | refine q06 ?_ _)); refine q0k (cs := #[.string t190, .string a0_0, .int .u64 0, .int .i64 0, .int .i64 0, .int .i64 0]) ?_ 2 _ rfl; (with_reducible repeat (first | refine q07 ?_ _ | refine q08 ?_ | refine q06 ?_ _)); refine q0k (cs := #[.string t190, .string (⟨#[]⟩ : ByteArray), .int .u64 0, .int .i64 0, .int .i64 0, .int .i64 0]) ?_ 1 _ rfl; (with_reducible repeat (first | refine q07 ?_ _ | refine q08 ?_ | refine q06 ?_ _)); refine q0k (cs := #[.string (⟨#[]⟩ : ByteArray), .string (⟨#[]⟩ : ByteArray), .int .u64 0, .int .i64 0, .int .i64 0, .int .i64 0]) ?_ 0 _ rfl; (with_reducible repeat (first | refine q07 ?_ _ | refine q08 ?_ | refine q06 ?_ _)); exact BK189.out) Try.underlying65 rfl (by kernel_rfl)) rfl ?_
           exact ⟨by first | rfl | (simp [q0c, q0b] <;> rfl) | (simp only [← hji6]; first | rfl | (simp [q0c, q0b] <;> rfl)) | (simp [*, q0c, q0b] <;> rfl), by repeat (first | (with_reducible first | exact HB.out | apply q02 | apply q00 | apply q01 | refine q09 ?_ GE188.out | refine q09 ?_ GE189.out) | exact HB.out)⟩
         ·rw [if_neg c14] at H
          have c14b0 : (a0_2 == 1) = false := beq_eq_false_iff_ne.mpr c14
          have c14b1 : (a0_2 != 1) = true := bne_iff_ne.mpr c14
          simp only [Option.some.injEq, Prod.mk.injEq] at H
          obtain ⟨rfl, rfl, rfl, rfl, rfl, rfl, rfl⟩ := H
          go_enter Try.func44, Try.ntmps44
          go_wp2_with (first | ((with_reducible refine q0q (N := 1) rfl ?_); (try (refine q0s (by rfl) ?_; dsimp only)); refine q0p ?hg (N := 1) ?hd (cs := #[.string a0_0, .int .u64 a0_1, .int .i64 a0_2, .string a0_3]) (t := 28) ?hr ?_; (case hd => rfl); (case hg => rfl); (case hr => first | (go_simp; done) | (go_simp; rfl)); intro gb188 hg w50 hbox hb; have n0_ := q04.mk (q0a (by repeat (first | (with_reducible first | exact HB.out | apply q02 | apply q00 | apply q01) | exact HB.out)) hb); have n1_ := q04.mk (hbox); have n2_ := q04.mk ((by rw [hg]; exact (q0d (by repeat (first | (with_reducible first | exact HB.out | apply q02 | apply q00 | apply q01) | exact HB.out))) : w.heap.size ≤ gb188)); have n3_ := q04.mk ((by rw [hg]; exact (q0d (by repeat (first | (with_reducible first | exact HB.out | apply q02 | apply q00 | apply q01) | exact HB.out))) : w.heap.size ≤ gb188)); clear HB; have HB := n0_; have BK188 := n1_; have GW188 := n2_; have GE188 := n3_; clear n0_ n1_ n2_ n3_; clear hb hbox hg) | ((with_reducible refine q0q (N := 2) rfl ?_); (try (refine q0s (by rfl) ?_; dsimp only)); refine q0p ?hg (N := 2) ?hd (cs := #[.string (⟨#[]⟩ : ByteArray), .string (⟨#[]⟩ : ByteArray), .int .u64 0, .int .i64 0, .int .i64 0, .int .i64 0]) (t := 65) ?hr ?_; (case hd => rfl); (case hg => rfl); (case hr => first | (go_simp; done) | (go_simp; rfl)); intro gb189 hg w51 hbox hb; have n0_ := q04.mk (q0e (g := gb188) (o := .cells #[.string a0_0, .int .u64 a0_1, .int .i64 a0_2, .string a0_3] 28 (0, 0)) (by (with_reducible repeat (first | refine q07 ?_ _ | refine q08 ?_ | refine q06 ?_ _)); exact BK188.out) hb); have n1_ := q04.mk (q0a (by repeat (first | (with_reducible first | exact HB.out | apply q02 | apply q00 | apply q01 | refine q09 ?_ GE188.out) | exact HB.out)) hb); have n2_ := q04.mk (hbox); have n3_ := q04.mk ((by rw [hg]; exact (q0d (by repeat (first | (with_reducible first | exact HB.out | apply q02 | apply q00 | apply q01 | refine q09 ?_ GE188.out) | exact HB.out))) : w.heap.size ≤ gb189)); have n4_ := q04.mk ((by rw [hg]; exact (q0d (by repeat (first | (with_reducible first | exact HB.out | apply q02 | apply q00 | apply q01 | refine q09 ?_ GE188.out) | exact HB.out))) : w.heap.size ≤ gb189)); have n5_ := q04.mk ((by rw [hg]; exact Nat.ne_of_lt (q1g (g := gb188) (o := .cells #[.string a0_0, .int .u64 a0_1, .int .i64 a0_2, .string a0_3] 28 (0, 0)) (by (with_reducible repeat (first | refine q07 ?_ _ | refine q08 ?_ | refine q06 ?_ _)); exact BK188.out)) : gb188 ≠ gb189)); have n6_ := q04.mk ((by rw [hg]; exact Nat.ne_of_gt (q1g (g := gb188) (o := .cells #[.string a0_0, .int .u64 a0_1, .int .i64 a0_2, .string a0_3] 28 (0, 0)) (by (with_reducible repeat (first | refine q07 ?_ _ | refine q08 ?_ | refine q06 ?_ _)); exact BK188.out)) : gb189 ≠ gb188)); clear BK188; clear HB; have BK188 := n0_; have HB := n1_; have BK189 := n2_; have GW189 := n3_; have GE189 := n4_; have NB188_189 := n5_; have NB189_188 := n6_; clear n0_ n1_ n2_ n3_ n4_ n5_ n6_; clear hb hbox hg; have hnb52 := NB188_189.out; have hnc52 := NB189_188.out; have hcz53_0 : w51.cell? ⟨gb188, 0, none⟩ = some (.string a0_0) := (q03 BK188.out 0).trans rfl; have hcz53_1 : w51.cell? ⟨gb188, 1, none⟩ = some (.int .u64 a0_1) := (q03 BK188.out 1).trans rfl; have hcz53_2 : w51.cell? ⟨gb188, 2, none⟩ = some (.int .i64 a0_2) := (q03 BK188.out 2).trans rfl; have hcz53_3 : w51.cell? ⟨gb188, 3, none⟩ = some (.string a0_3) := (q03 BK188.out 3).trans rfl; have hfz53_0 := q05 BK188.out 0; have hfz53_1 := q05 BK188.out 1; have hfz53_2 := q05 BK188.out 2; have hfz53_3 := q05 BK188.out 3) | ((with_reducible refine q0h (f := 67) rfl ?_); refine q0r (some 17) rfl rfl Try.func67 (by kernel_rfl) rfl #[.string a0_3, .int .i64 520] rfl (by (try simp only [List.map_toArray, List.map_cons, List.map_nil]); first | done | rfl | (simp only [List.length_drop, List.length_take]; rfl)) ?_; (with_reducible refine (code_Field.calls k a0_3 520 t190 t191 t192 _ A2.out).mono ?_); rintro e w54 ⟨rfl, hb⟩; refine ⟨_, rfl, ?_⟩; have n0_ := q04.mk (q0e (g := gb188) (o := .cells #[.string a0_0, .int .u64 a0_1, .int .i64 a0_2, .string a0_3] 28 (0, 0)) (by (with_reducible repeat (first | refine q07 ?_ _ | refine q08 ?_ | refine q06 ?_ _)); exact BK188.out) hb); have n1_ := q04.mk (q0e (g := gb189) (o := .cells #[.string (⟨#[]⟩ : ByteArray), .string (⟨#[]⟩ : ByteArray), .int .u64 0, .int .i64 0, .int .i64 0, .int .i64 0] 65 (0, 0)) (by (with_reducible repeat (first | refine q07 ?_ _ | refine q08 ?_ | refine q06 ?_ _)); exact BK189.out) hb); have n2_ := q04.mk (q0a (by repeat (first | (with_reducible first | exact HB.out | apply q02 | apply q00 | apply q01 | refine q09 ?_ GE188.out | refine q09 ?_ GE189.out) | exact HB.out)) hb); clear BK188; clear BK189; clear HB; have BK188 := n0_; have BK189 := n1_; have HB := n2_; clear n0_ n1_ n2_; (try clear hb); (try clear hb2); (try clear hk); (try clear hi); have hcz55_0 : w54.cell? ⟨gb188, 0, none⟩ = some (.string a0_0) := (q03 BK188.out 0).trans rfl; have hcz55_1 : w54.cell? ⟨gb188, 1, none⟩ = some (.int .u64 a0_1) := (q03 BK188.out 1).trans rfl; have hcz55_2 : w54.cell? ⟨gb188, 2, none⟩ = some (.int .i64 a0_2) := (q03 BK188.out 2).trans rfl; have hcz55_3 : w54.cell? ⟨gb188, 3, none⟩ = some (.string a0_3) := (q03 BK188.out 3).trans rfl; have hfz55_0 := q05 BK188.out 0; have hfz55_1 := q05 BK188.out 1; have hfz55_2 := q05 BK188.out 2; have hfz55_3 := q05 BK188.out 3) | ((with_reducible refine q0h (f := 68) rfl ?_); refine q0r (some 26) rfl rfl Try.func68 (by kernel_rfl) rfl #[.string (a0_3.extract (t191 : Int).toNat a0_3.size)] rfl (by (try simp only [List.map_toArray, List.map_cons, List.map_nil]); first | done | rfl | (simp only [List.length_drop, List.length_take]; rfl)) ?_; (with_reducible refine (code_Uint.calls (a0_3.extract (t191 : Int).toNat a0_3.size) t193 t194 t195 _ A5.out).mono ?_); rintro e w56 ⟨rfl, hb⟩; refine ⟨_, rfl, ?_⟩; have n0_ := q04.mk (q0e (g := gb188) (o := .cells #[.string a0_0, .int .u64 a0_1, .int .i64 a0_2, .string a0_3] 28 (0, 0)) (by (with_reducible repeat (first | refine q07 ?_ _ | refine q08 ?_ | refine q06 ?_ _)); exact BK188.out) hb); have n1_ := q04.mk (q0e (g := gb189) (o := .cells #[.string (⟨#[]⟩ : ByteArray), .string (⟨#[]⟩ : ByteArray), .int .u64 0, .int .i64 0, .int .i64 0, .int .i64 0] 65 (0, 0)) (by (with_reducible repeat (first | refine q07 ?_ _ | refine q08 ?_ | refine q06 ?_ _)); exact BK189.out) hb); have n2_ := q04.mk (q0a (by repeat (first | (with_reducible first | exact HB.out | apply q02 | apply q00 | apply q01 | refine q09 ?_ GE188.out | refine q09 ?_ GE189.out) | exact HB.out)) hb); clear BK188; clear BK189; clear HB; have BK188 := n0_; have BK189 := n1_; have HB := n2_; clear n0_ n1_ n2_; (try clear hb); (try clear hb2); (try clear hk); (try clear hi); have hcz57_0 : w56.cell? ⟨gb188, 0, none⟩ = some (.string a0_0) := (q03 BK188.out 0).trans rfl; have hcz57_1 : w56.cell? ⟨gb188, 1, none⟩ = some (.int .u64 a0_1) := (q03 BK188.out 1).trans rfl; have hcz57_2 : w56.cell? ⟨gb188, 2, none⟩ = some (.int .i64 a0_2) := (q03 BK188.out 2).trans rfl; have hcz57_3 : w56.cell? ⟨gb188, 3, none⟩ = some (.string a0_3) := (q03 BK188.out 3).trans rfl; have hfz57_0 := q05 BK188.out 0; have hfz57_1 := q05 BK188.out 1; have hfz57_2 := q05 BK188.out 2; have hfz57_3 := q05 BK188.out 3) | ((with_reducible refine q0h (f := 68) rfl ?_); refine q0r (some 37) rfl rfl Try.func68 (by kernel_rfl) rfl #[.string (a0_3.extract ((ji6) : Int).toNat a0_3.size)] rfl (by (try simp only [List.map_toArray, List.map_cons, List.map_nil]); first | done | (simp only [hji6]; rfl) | rfl | (simp only [List.length_drop, List.length_take]; rfl)) ?_; (with_reducible refine (code_Uint.calls (a0_3.extract ((ji6) : Int).toNat a0_3.size) t196 t197 t198 _ A9.out).mono ?_); rintro e w58 ⟨rfl, hb⟩; refine ⟨_, rfl, ?_⟩; have n0_ := q04.mk (q0e (g := gb188) (o := .cells #[.string a0_0, .int .u64 a0_1, .int .i64 a0_2, .string a0_3] 28 (0, 0)) (by (with_reducible repeat (first | refine q07 ?_ _ | refine q08 ?_ | refine q06 ?_ _)); exact BK188.out) hb); have n1_ := q04.mk (q0e (g := gb189) (o := .cells #[.string (⟨#[]⟩ : ByteArray), .string (⟨#[]⟩ : ByteArray), .int .u64 0, .int .i64 0, .int .i64 0, .int .i64 0] 65 (0, 0)) (by (with_reducible repeat (first | refine q07 ?_ _ | refine q08 ?_ | refine q06 ?_ _)); exact BK189.out) hb); have n2_ := q04.mk (q0a (by repeat (first | (with_reducible first | exact HB.out | apply q02 | apply q00 | apply q01 | refine q09 ?_ GE188.out | refine q09 ?_ GE189.out) | exact HB.out)) hb); clear BK188; clear BK189; clear HB; have BK188 := n0_; have BK189 := n1_; have HB := n2_; clear n0_ n1_ n2_; (try clear hb); (try clear hb2); (try clear hk); (try clear hi); have hcz59_0 : w58.cell? ⟨gb188, 0, none⟩ = some (.string a0_0) := (q03 BK188.out 0).trans rfl; have hcz59_1 : w58.cell? ⟨gb188, 1, none⟩ = some (.int .u64 a0_1) := (q03 BK188.out 1).trans rfl; have hcz59_2 : w58.cell? ⟨gb188, 2, none⟩ = some (.int .i64 a0_2) := (q03 BK188.out 2).trans rfl; have hcz59_3 : w58.cell? ⟨gb188, 3, none⟩ = some (.string a0_3) := (q03 BK188.out 3).trans rfl; have hfz59_0 := q05 BK188.out 0; have hfz59_1 := q05 BK188.out 1; have hfz59_2 := q05 BK188.out 2; have hfz59_3 := q05 BK188.out 3; have hcz60_0 : w58.cell? ⟨gb189, 0, none⟩ = some (.string (⟨#[]⟩ : ByteArray)) := (q03 BK189.out 0).trans rfl; have hcz60_1 : w58.cell? ⟨gb189, 1, none⟩ = some (.string (⟨#[]⟩ : ByteArray)) := (q03 BK189.out 1).trans rfl; have hcz60_2 : w58.cell? ⟨gb189, 2, none⟩ = some (.int .u64 0) := (q03 BK189.out 2).trans rfl; have hcz60_3 : w58.cell? ⟨gb189, 3, none⟩ = some (.int .i64 0) := (q03 BK189.out 3).trans rfl; have hcz60_4 : w58.cell? ⟨gb189, 4, none⟩ = some (.int .i64 0) := (q03 BK189.out 4).trans rfl; have hcz60_5 : w58.cell? ⟨gb189, 5, none⟩ = some (.int .i64 0) := (q03 BK189.out 5).trans rfl; have hfz60_0 := q05 BK189.out 0; have hfz60_1 := q05 BK189.out 1; have hfz60_2 := q05 BK189.out 2; have hfz60_3 := q05 BK189.out 3; have hfz60_4 := q05 BK189.out 4; have hfz60_5 := q05 BK189.out 5))
          refine bodyPost_ret (q1e rfl _ _ gb189 65 #[.string t190, .string a0_0, .int .u64 a0_1, .int .i64 (wrap64 (t196)), .int .i64 (wrap64 (t193)), .int .i64 0] (0, 0) _ rfl (by (with_reducible repeat (first | refine q07 ?_ _ | refine q08 ?_ | refine q06 ?_ _)); refine q0k (cs := #[.string t190, .string a0_0, .int .u64 a0_1, .int .i64 (wrap64 (t196)), .int .i64 (wrap64 (t193)), .int .i64 0]) ?_ 5 _ rfl; (with_reducible repeat (first | refine q07 ?_ _ | refine q08 ?_ | refine q06 ?_ _)); refine q0k (cs := #[.string t190, .string a0_0, .int .u64 a0_1, .int .i64 (wrap64 (t196)), .int .i64 0, .int .i64 0]) ?_ 4 _ rfl; (with_reducible repeat (first | refine q07 ?_ _ | refine q08 ?_ | refine q06 ?_ _)); refine q0k (cs := #[.string t190, .string a0_0, .int .u64 a0_1, .int .i64 0, .int .i64 0, .int .i64 0]) ?_ 3 _ rfl; (with_reducible repeat (first | refine q07 ?_ _ | refine q08 ?_ | refine q06 ?_ _)); refine q0k (cs := #[.string t190, .string a0_0, .int .u64 0, .int .i64 0, .int .i64 0, .int .i64 0]) ?_ 2 _ rfl; (with_reducible repeat (first | refine q07 ?_ _ | refine q08 ?_ | refine q06 ?_ _)); refine q0k (cs := #[.string t190, .string (⟨#[]⟩ : ByteArray), .int .u64 0, .int .i64 0, .int .i64 0, .int .i64 0]) ?_ 1 _ rfl; (with_reducible repeat (first | refine q07 ?_ _ | refine q08 ?_ | refine q06 ?_ _)); refine q0k (cs := #[.string (⟨#[]⟩ : ByteArray), .string (⟨#[]⟩ : ByteArray), .int .u64 0, .int .i64 0, .int .i64 0, .int .i64 0]) ?_ 0 _ rfl; (with_reducible repeat (first | refine q07 ?_ _ | refine q08 ?_ | refine q06 ?_ _)); exact BK189.out) Try.underlying65 rfl (by kernel_rfl)) rfl ?_
          exact ⟨by first | rfl | (simp [q0c, q0b] <;> rfl) | (simp only [← hji6]; first | rfl | (simp [q0c, q0b] <;> rfl)) | (simp [*, q0c, q0b] <;> rfl), by repeat (first | (with_reducible first | exact HB.out | apply q02 | apply q00 | apply q01 | refine q09 ?_ GE188.out | refine q09 ?_ GE189.out) | exact HB.out)⟩
        ·rw [if_neg c13] at H
         have c13b0 : ((wrap64 ((ji6) + t197)) == (a0_3.size : Int)) = false := beq_eq_false_iff_ne.mpr c13
         have c13b1 : ((wrap64 ((ji6) + t197)) != (a0_3.size : Int)) = true := bne_iff_ne.mpr c13
         simp only [Option.some.injEq, Prod.mk.injEq] at H
         obtain ⟨rfl, rfl, rfl, rfl, rfl, rfl, rfl⟩ := H
         go_enter Try.func44, Try.ntmps44
         go_wp2_with (first | ((with_reducible refine q0q (N := 1) rfl ?_); (try (refine q0s (by rfl) ?_; dsimp only)); refine q0p ?hg (N := 1) ?hd (cs := #[.string a0_0, .int .u64 a0_1, .int .i64 a0_2, .string a0_3]) (t := 28) ?hr ?_; (case hd => rfl); (case hg => rfl); (case hr => first | (go_simp; done) | (go_simp; rfl)); intro gb188 hg w61 hbox hb; have n0_ := q04.mk (q0a (by repeat (first | (with_reducible first | exact HB.out | apply q02 | apply q00 | apply q01) | exact HB.out)) hb); have n1_ := q04.mk (hbox); have n2_ := q04.mk ((by rw [hg]; exact (q0d (by repeat (first | (with_reducible first | exact HB.out | apply q02 | apply q00 | apply q01) | exact HB.out))) : w.heap.size ≤ gb188)); have n3_ := q04.mk ((by rw [hg]; exact (q0d (by repeat (first | (with_reducible first | exact HB.out | apply q02 | apply q00 | apply q01) | exact HB.out))) : w.heap.size ≤ gb188)); clear HB; have HB := n0_; have BK188 := n1_; have GW188 := n2_; have GE188 := n3_; clear n0_ n1_ n2_ n3_; clear hb hbox hg) | ((with_reducible refine q0q (N := 2) rfl ?_); (try (refine q0s (by rfl) ?_; dsimp only)); refine q0p ?hg (N := 2) ?hd (cs := #[.string (⟨#[]⟩ : ByteArray), .string (⟨#[]⟩ : ByteArray), .int .u64 0, .int .i64 0, .int .i64 0, .int .i64 0]) (t := 65) ?hr ?_; (case hd => rfl); (case hg => rfl); (case hr => first | (go_simp; done) | (go_simp; rfl)); intro gb189 hg w62 hbox hb; have n0_ := q04.mk (q0e (g := gb188) (o := .cells #[.string a0_0, .int .u64 a0_1, .int .i64 a0_2, .string a0_3] 28 (0, 0)) (by (with_reducible repeat (first | refine q07 ?_ _ | refine q08 ?_ | refine q06 ?_ _)); exact BK188.out) hb); have n1_ := q04.mk (q0a (by repeat (first | (with_reducible first | exact HB.out | apply q02 | apply q00 | apply q01 | refine q09 ?_ GE188.out) | exact HB.out)) hb); have n2_ := q04.mk (hbox); have n3_ := q04.mk ((by rw [hg]; exact (q0d (by repeat (first | (with_reducible first | exact HB.out | apply q02 | apply q00 | apply q01 | refine q09 ?_ GE188.out) | exact HB.out))) : w.heap.size ≤ gb189)); have n4_ := q04.mk ((by rw [hg]; exact (q0d (by repeat (first | (with_reducible first | exact HB.out | apply q02 | apply q00 | apply q01 | refine q09 ?_ GE188.out) | exact HB.out))) : w.heap.size ≤ gb189)); have n5_ := q04.mk ((by rw [hg]; exact Nat.ne_of_lt (q1g (g := gb188) (o := .cells #[.string a0_0, .int .u64 a0_1, .int .i64 a0_2, .string a0_3] 28 (0, 0)) (by (with_reducible repeat (first | refine q07 ?_ _ | refine q08 ?_ | refine q06 ?_ _)); exact BK188.out)) : gb188 ≠ gb189)); have n6_ := q04.mk ((by rw [hg]; exact Nat.ne_of_gt (q1g (g := gb188) (o := .cells #[.string a0_0, .int .u64 a0_1, .int .i64 a0_2, .string a0_3] 28 (0, 0)) (by (with_reducible repeat (first | refine q07 ?_ _ | refine q08 ?_ | refine q06 ?_ _)); exact BK188.out)) : gb189 ≠ gb188)); clear BK188; clear HB; have BK188 := n0_; have HB := n1_; have BK189 := n2_; have GW189 := n3_; have GE189 := n4_; have NB188_189 := n5_; have NB189_188 := n6_; clear n0_ n1_ n2_ n3_ n4_ n5_ n6_; clear hb hbox hg; have hnb63 := NB188_189.out; have hnc63 := NB189_188.out; have hcz64_0 : w62.cell? ⟨gb188, 0, none⟩ = some (.string a0_0) := (q03 BK188.out 0).trans rfl; have hcz64_1 : w62.cell? ⟨gb188, 1, none⟩ = some (.int .u64 a0_1) := (q03 BK188.out 1).trans rfl; have hcz64_2 : w62.cell? ⟨gb188, 2, none⟩ = some (.int .i64 a0_2) := (q03 BK188.out 2).trans rfl; have hcz64_3 : w62.cell? ⟨gb188, 3, none⟩ = some (.string a0_3) := (q03 BK188.out 3).trans rfl; have hfz64_0 := q05 BK188.out 0; have hfz64_1 := q05 BK188.out 1; have hfz64_2 := q05 BK188.out 2; have hfz64_3 := q05 BK188.out 3) | ((with_reducible refine q0h (f := 67) rfl ?_); refine q0r (some 17) rfl rfl Try.func67 (by kernel_rfl) rfl #[.string a0_3, .int .i64 520] rfl (by (try simp only [List.map_toArray, List.map_cons, List.map_nil]); first | done | rfl | (simp only [List.length_drop, List.length_take]; rfl)) ?_; (with_reducible refine (code_Field.calls k a0_3 520 t190 t191 t192 _ A2.out).mono ?_); rintro e w65 ⟨rfl, hb⟩; refine ⟨_, rfl, ?_⟩; have n0_ := q04.mk (q0e (g := gb188) (o := .cells #[.string a0_0, .int .u64 a0_1, .int .i64 a0_2, .string a0_3] 28 (0, 0)) (by (with_reducible repeat (first | refine q07 ?_ _ | refine q08 ?_ | refine q06 ?_ _)); exact BK188.out) hb); have n1_ := q04.mk (q0e (g := gb189) (o := .cells #[.string (⟨#[]⟩ : ByteArray), .string (⟨#[]⟩ : ByteArray), .int .u64 0, .int .i64 0, .int .i64 0, .int .i64 0] 65 (0, 0)) (by (with_reducible repeat (first | refine q07 ?_ _ | refine q08 ?_ | refine q06 ?_ _)); exact BK189.out) hb); have n2_ := q04.mk (q0a (by repeat (first | (with_reducible first | exact HB.out | apply q02 | apply q00 | apply q01 | refine q09 ?_ GE188.out | refine q09 ?_ GE189.out) | exact HB.out)) hb); clear BK188; clear BK189; clear HB; have BK188 := n0_; have BK189 := n1_; have HB := n2_; clear n0_ n1_ n2_; (try clear hb); (try clear hb2); (try clear hk); (try clear hi); have hcz66_0 : w65.cell? ⟨gb188, 0, none⟩ = some (.string a0_0) := (q03 BK188.out 0).trans rfl; have hcz66_1 : w65.cell? ⟨gb188, 1, none⟩ = some (.int .u64 a0_1) := (q03 BK188.out 1).trans rfl; have hcz66_2 : w65.cell? ⟨gb188, 2, none⟩ = some (.int .i64 a0_2) := (q03 BK188.out 2).trans rfl; have hcz66_3 : w65.cell? ⟨gb188, 3, none⟩ = some (.string a0_3) := (q03 BK188.out 3).trans rfl; have hfz66_0 := q05 BK188.out 0; have hfz66_1 := q05 BK188.out 1; have hfz66_2 := q05 BK188.out 2; have hfz66_3 := q05 BK188.out 3) | ((with_reducible refine q0h (f := 68) rfl ?_); refine q0r (some 26) rfl rfl Try.func68 (by kernel_rfl) rfl #[.string (a0_3.extract (t191 : Int).toNat a0_3.size)] rfl (by (try simp only [List.map_toArray, List.map_cons, List.map_nil]); first | done | rfl | (simp only [List.length_drop, List.length_take]; rfl)) ?_; (with_reducible refine (code_Uint.calls (a0_3.extract (t191 : Int).toNat a0_3.size) t193 t194 t195 _ A5.out).mono ?_); rintro e w67 ⟨rfl, hb⟩; refine ⟨_, rfl, ?_⟩; have n0_ := q04.mk (q0e (g := gb188) (o := .cells #[.string a0_0, .int .u64 a0_1, .int .i64 a0_2, .string a0_3] 28 (0, 0)) (by (with_reducible repeat (first | refine q07 ?_ _ | refine q08 ?_ | refine q06 ?_ _)); exact BK188.out) hb); have n1_ := q04.mk (q0e (g := gb189) (o := .cells #[.string (⟨#[]⟩ : ByteArray), .string (⟨#[]⟩ : ByteArray), .int .u64 0, .int .i64 0, .int .i64 0, .int .i64 0] 65 (0, 0)) (by (with_reducible repeat (first | refine q07 ?_ _ | refine q08 ?_ | refine q06 ?_ _)); exact BK189.out) hb); have n2_ := q04.mk (q0a (by repeat (first | (with_reducible first | exact HB.out | apply q02 | apply q00 | apply q01 | refine q09 ?_ GE188.out | refine q09 ?_ GE189.out) | exact HB.out)) hb); clear BK188; clear BK189; clear HB; have BK188 := n0_; have BK189 := n1_; have HB := n2_; clear n0_ n1_ n2_; (try clear hb); (try clear hb2); (try clear hk); (try clear hi); have hcz68_0 : w67.cell? ⟨gb188, 0, none⟩ = some (.string a0_0) := (q03 BK188.out 0).trans rfl; have hcz68_1 : w67.cell? ⟨gb188, 1, none⟩ = some (.int .u64 a0_1) := (q03 BK188.out 1).trans rfl; have hcz68_2 : w67.cell? ⟨gb188, 2, none⟩ = some (.int .i64 a0_2) := (q03 BK188.out 2).trans rfl; have hcz68_3 : w67.cell? ⟨gb188, 3, none⟩ = some (.string a0_3) := (q03 BK188.out 3).trans rfl; have hfz68_0 := q05 BK188.out 0; have hfz68_1 := q05 BK188.out 1; have hfz68_2 := q05 BK188.out 2; have hfz68_3 := q05 BK188.out 3) | ((with_reducible refine q0h (f := 68) rfl ?_); refine q0r (some 37) rfl rfl Try.func68 (by kernel_rfl) rfl #[.string (a0_3.extract ((ji6) : Int).toNat a0_3.size)] rfl (by (try simp only [List.map_toArray, List.map_cons, List.map_nil]); first | done | (simp only [hji6]; rfl) | rfl | (simp only [List.length_drop, List.length_take]; rfl)) ?_; (with_reducible refine (code_Uint.calls (a0_3.extract ((ji6) : Int).toNat a0_3.size) t196 t197 t198 _ A9.out).mono ?_); rintro e w69 ⟨rfl, hb⟩; refine ⟨_, rfl, ?_⟩; have n0_ := q04.mk (q0e (g := gb188) (o := .cells #[.string a0_0, .int .u64 a0_1, .int .i64 a0_2, .string a0_3] 28 (0, 0)) (by (with_reducible repeat (first | refine q07 ?_ _ | refine q08 ?_ | refine q06 ?_ _)); exact BK188.out) hb); have n1_ := q04.mk (q0e (g := gb189) (o := .cells #[.string (⟨#[]⟩ : ByteArray), .string (⟨#[]⟩ : ByteArray), .int .u64 0, .int .i64 0, .int .i64 0, .int .i64 0] 65 (0, 0)) (by (with_reducible repeat (first | refine q07 ?_ _ | refine q08 ?_ | refine q06 ?_ _)); exact BK189.out) hb); have n2_ := q04.mk (q0a (by repeat (first | (with_reducible first | exact HB.out | apply q02 | apply q00 | apply q01 | refine q09 ?_ GE188.out | refine q09 ?_ GE189.out) | exact HB.out)) hb); clear BK188; clear BK189; clear HB; have BK188 := n0_; have BK189 := n1_; have HB := n2_; clear n0_ n1_ n2_; (try clear hb); (try clear hb2); (try clear hk); (try clear hi); have hcz70_0 : w69.cell? ⟨gb188, 0, none⟩ = some (.string a0_0) := (q03 BK188.out 0).trans rfl; have hcz70_1 : w69.cell? ⟨gb188, 1, none⟩ = some (.int .u64 a0_1) := (q03 BK188.out 1).trans rfl; have hcz70_2 : w69.cell? ⟨gb188, 2, none⟩ = some (.int .i64 a0_2) := (q03 BK188.out 2).trans rfl; have hcz70_3 : w69.cell? ⟨gb188, 3, none⟩ = some (.string a0_3) := (q03 BK188.out 3).trans rfl; have hfz70_0 := q05 BK188.out 0; have hfz70_1 := q05 BK188.out 1; have hfz70_2 := q05 BK188.out 2; have hfz70_3 := q05 BK188.out 3; have hcz71_0 : w69.cell? ⟨gb189, 0, none⟩ = some (.string (⟨#[]⟩ : ByteArray)) := (q03 BK189.out 0).trans rfl; have hcz71_1 : w69.cell? ⟨gb189, 1, none⟩ = some (.string (⟨#[]⟩ : ByteArray)) := (q03 BK189.out 1).trans rfl; have hcz71_2 : w69.cell? ⟨gb189, 2, none⟩ = some (.int .u64 0) := (q03 BK189.out 2).trans rfl; have hcz71_3 : w69.cell? ⟨gb189, 3, none⟩ = some (.int .i64 0) := (q03 BK189.out 3).trans rfl; have hcz71_4 : w69.cell? ⟨gb189, 4, none⟩ = some (.int .i64 0) := (q03 BK189.out 4).trans rfl; have hcz71_5 : w69.cell? ⟨gb189, 5, none⟩ = some (.int .i64 0) := (q03 BK189.out 5).trans rfl; have hfz71_0 := q05 BK189.out 0; have hfz71_1 := q05 BK189.out 1; have hfz71_2 := q05 BK189.out 2; have hfz71_3 := q05 BK189.out 3; have hfz71_4 := q05 BK189.out 4; have hfz71_5 := q05 BK189.out 5))
         refine bodyPost_ret (q1e rfl _ _ gb189 65 #[.string t190, .string a0_0, .int .u64 a0_1, .int .i64 (wrap64 (t196)), .int .i64 (wrap64 (t193)), .int .i64 0] (0, 0) _ rfl (by (with_reducible repeat (first | refine q07 ?_ _ | refine q08 ?_ | refine q06 ?_ _)); refine q0k (cs := #[.string t190, .string a0_0, .int .u64 a0_1, .int .i64 (wrap64 (t196)), .int .i64 (wrap64 (t193)), .int .i64 0]) ?_ 5 _ rfl; (with_reducible repeat (first | refine q07 ?_ _ | refine q08 ?_ | refine q06 ?_ _)); refine q0k (cs := #[.string t190, .string a0_0, .int .u64 a0_1, .int .i64 (wrap64 (t196)), .int .i64 0, .int .i64 0]) ?_ 4 _ rfl; (with_reducible repeat (first | refine q07 ?_ _ | refine q08 ?_ | refine q06 ?_ _)); refine q0k (cs := #[.string t190, .string a0_0, .int .u64 a0_1, .int .i64 0, .int .i64 0, .int .i64 0]) ?_ 3 _ rfl; (with_reducible repeat (first | refine q07 ?_ _ | refine q08 ?_ | refine q06 ?_ _)); refine q0k (cs := #[.string t190, .string a0_0, .int .u64 0, .int .i64 0, .int .i64 0, .int .i64 0]) ?_ 2 _ rfl; (with_reducible repeat (first | refine q07 ?_ _ | refine q08 ?_ | refine q06 ?_ _)); refine q0k (cs := #[.string t190, .string (⟨#[]⟩ : ByteArray), .int .u64 0, .int .i64 0, .int .i64 0, .int .i64 0]) ?_ 1 _ rfl; (with_reducible repeat (first | refine q07 ?_ _ | refine q08 ?_ | refine q06 ?_ _)); refine q0k (cs := #[.string (⟨#[]⟩ : ByteArray), .string (⟨#[]⟩ : ByteArray), .int .u64 0, .int .i64 0, .int .i64 0, .int .i64 0]) ?_ 0 _ rfl; (with_reducible repeat (first | refine q07 ?_ _ | refine q08 ?_ | refine q06 ?_ _)); exact BK189.out) Try.underlying65 rfl (by kernel_rfl)) rfl ?_
         exact ⟨by first | rfl | (simp [q0c, q0b] <;> rfl) | (simp only [← hji6]; first | rfl | (simp [q0c, q0b] <;> rfl)) | (simp [*, q0c, q0b] <;> rfl), by repeat (first | (with_reducible first | exact HB.out | apply q02 | apply q00 | apply q01 | refine q09 ?_ GE188.out | refine q09 ?_ GE189.out) | exact HB.out)⟩
       ·rw [if_neg c12] at H
        have c12b0 : (t198 == 0) = false := beq_eq_false_iff_ne.mpr c12
        have c12b1 : (t198 != 0) = true := bne_iff_ne.mpr c12
        simp only [Option.some.injEq, Prod.mk.injEq] at H
        obtain ⟨rfl, rfl, rfl, rfl, rfl, rfl, rfl⟩ := H
        go_enter Try.func44, Try.ntmps44
        go_wp2_with (first | ((with_reducible refine q0q (N := 1) rfl ?_); (try (refine q0s (by rfl) ?_; dsimp only)); refine q0p ?hg (N := 1) ?hd (cs := #[.string a0_0, .int .u64 a0_1, .int .i64 a0_2, .string a0_3]) (t := 28) ?hr ?_; (case hd => rfl); (case hg => rfl); (case hr => first | (go_simp; done) | (go_simp; rfl)); intro gb188 hg w72 hbox hb; have n0_ := q04.mk (q0a (by repeat (first | (with_reducible first | exact HB.out | apply q02 | apply q00 | apply q01) | exact HB.out)) hb); have n1_ := q04.mk (hbox); have n2_ := q04.mk ((by rw [hg]; exact (q0d (by repeat (first | (with_reducible first | exact HB.out | apply q02 | apply q00 | apply q01) | exact HB.out))) : w.heap.size ≤ gb188)); have n3_ := q04.mk ((by rw [hg]; exact (q0d (by repeat (first | (with_reducible first | exact HB.out | apply q02 | apply q00 | apply q01) | exact HB.out))) : w.heap.size ≤ gb188)); clear HB; have HB := n0_; have BK188 := n1_; have GW188 := n2_; have GE188 := n3_; clear n0_ n1_ n2_ n3_; clear hb hbox hg) | ((with_reducible refine q0q (N := 2) rfl ?_); (try (refine q0s (by rfl) ?_; dsimp only)); refine q0p ?hg (N := 2) ?hd (cs := #[.string (⟨#[]⟩ : ByteArray), .string (⟨#[]⟩ : ByteArray), .int .u64 0, .int .i64 0, .int .i64 0, .int .i64 0]) (t := 65) ?hr ?_; (case hd => rfl); (case hg => rfl); (case hr => first | (go_simp; done) | (go_simp; rfl)); intro gb189 hg w73 hbox hb; have n0_ := q04.mk (q0e (g := gb188) (o := .cells #[.string a0_0, .int .u64 a0_1, .int .i64 a0_2, .string a0_3] 28 (0, 0)) (by (with_reducible repeat (first | refine q07 ?_ _ | refine q08 ?_ | refine q06 ?_ _)); exact BK188.out) hb); have n1_ := q04.mk (q0a (by repeat (first | (with_reducible first | exact HB.out | apply q02 | apply q00 | apply q01 | refine q09 ?_ GE188.out) | exact HB.out)) hb); have n2_ := q04.mk (hbox); have n3_ := q04.mk ((by rw [hg]; exact (q0d (by repeat (first | (with_reducible first | exact HB.out | apply q02 | apply q00 | apply q01 | refine q09 ?_ GE188.out) | exact HB.out))) : w.heap.size ≤ gb189)); have n4_ := q04.mk ((by rw [hg]; exact (q0d (by repeat (first | (with_reducible first | exact HB.out | apply q02 | apply q00 | apply q01 | refine q09 ?_ GE188.out) | exact HB.out))) : w.heap.size ≤ gb189)); have n5_ := q04.mk ((by rw [hg]; exact Nat.ne_of_lt (q1g (g := gb188) (o := .cells #[.string a0_0, .int .u64 a0_1, .int .i64 a0_2, .string a0_3] 28 (0, 0)) (by (with_reducible repeat (first | refine q07 ?_ _ | refine q08 ?_ | refine q06 ?_ _)); exact BK188.out)) : gb188 ≠ gb189)); have n6_ := q04.mk ((by rw [hg]; exact Nat.ne_of_gt (q1g (g := gb188) (o := .cells #[.string a0_0, .int .u64 a0_1, .int .i64 a0_2, .string a0_3] 28 (0, 0)) (by (with_reducible repeat (first | refine q07 ?_ _ | refine q08 ?_ | refine q06 ?_ _)); exact BK188.out)) : gb189 ≠ gb188)); clear BK188; clear HB; have BK188 := n0_; have HB := n1_; have BK189 := n2_; have GW189 := n3_; have GE189 := n4_; have NB188_189 := n5_; have NB189_188 := n6_; clear n0_ n1_ n2_ n3_ n4_ n5_ n6_; clear hb hbox hg; have hnb74 := NB188_189.out; have hnc74 := NB189_188.out; have hcz75_0 : w73.cell? ⟨gb188, 0, none⟩ = some (.string a0_0) := (q03 BK188.out 0).trans rfl; have hcz75_1 : w73.cell? ⟨gb188, 1, none⟩ = some (.int .u64 a0_1) := (q03 BK188.out 1).trans rfl; have hcz75_2 : w73.cell? ⟨gb188, 2, none⟩ = some (.int .i64 a0_2) := (q03 BK188.out 2).trans rfl; have hcz75_3 : w73.cell? ⟨gb188, 3, none⟩ = some (.string a0_3) := (q03 BK188.out 3).trans rfl; have hfz75_0 := q05 BK188.out 0; have hfz75_1 := q05 BK188.out 1; have hfz75_2 := q05 BK188.out 2; have hfz75_3 := q05 BK188.out 3) | ((with_reducible refine q0h (f := 67) rfl ?_); refine q0r (some 17) rfl rfl Try.func67 (by kernel_rfl) rfl #[.string a0_3, .int .i64 520] rfl (by (try simp only [List.map_toArray, List.map_cons, List.map_nil]); first | done | rfl | (simp only [List.length_drop, List.length_take]; rfl)) ?_; (with_reducible refine (code_Field.calls k a0_3 520 t190 t191 t192 _ A2.out).mono ?_); rintro e w76 ⟨rfl, hb⟩; refine ⟨_, rfl, ?_⟩; have n0_ := q04.mk (q0e (g := gb188) (o := .cells #[.string a0_0, .int .u64 a0_1, .int .i64 a0_2, .string a0_3] 28 (0, 0)) (by (with_reducible repeat (first | refine q07 ?_ _ | refine q08 ?_ | refine q06 ?_ _)); exact BK188.out) hb); have n1_ := q04.mk (q0e (g := gb189) (o := .cells #[.string (⟨#[]⟩ : ByteArray), .string (⟨#[]⟩ : ByteArray), .int .u64 0, .int .i64 0, .int .i64 0, .int .i64 0] 65 (0, 0)) (by (with_reducible repeat (first | refine q07 ?_ _ | refine q08 ?_ | refine q06 ?_ _)); exact BK189.out) hb); have n2_ := q04.mk (q0a (by repeat (first | (with_reducible first | exact HB.out | apply q02 | apply q00 | apply q01 | refine q09 ?_ GE188.out | refine q09 ?_ GE189.out) | exact HB.out)) hb); clear BK188; clear BK189; clear HB; have BK188 := n0_; have BK189 := n1_; have HB := n2_; clear n0_ n1_ n2_; (try clear hb); (try clear hb2); (try clear hk); (try clear hi); have hcz77_0 : w76.cell? ⟨gb188, 0, none⟩ = some (.string a0_0) := (q03 BK188.out 0).trans rfl; have hcz77_1 : w76.cell? ⟨gb188, 1, none⟩ = some (.int .u64 a0_1) := (q03 BK188.out 1).trans rfl; have hcz77_2 : w76.cell? ⟨gb188, 2, none⟩ = some (.int .i64 a0_2) := (q03 BK188.out 2).trans rfl; have hcz77_3 : w76.cell? ⟨gb188, 3, none⟩ = some (.string a0_3) := (q03 BK188.out 3).trans rfl; have hfz77_0 := q05 BK188.out 0; have hfz77_1 := q05 BK188.out 1; have hfz77_2 := q05 BK188.out 2; have hfz77_3 := q05 BK188.out 3) | ((with_reducible refine q0h (f := 68) rfl ?_); refine q0r (some 26) rfl rfl Try.func68 (by kernel_rfl) rfl #[.string (a0_3.extract (t191 : Int).toNat a0_3.size)] rfl (by (try simp only [List.map_toArray, List.map_cons, List.map_nil]); first | done | rfl | (simp only [List.length_drop, List.length_take]; rfl)) ?_; (with_reducible refine (code_Uint.calls (a0_3.extract (t191 : Int).toNat a0_3.size) t193 t194 t195 _ A5.out).mono ?_); rintro e w78 ⟨rfl, hb⟩; refine ⟨_, rfl, ?_⟩; have n0_ := q04.mk (q0e (g := gb188) (o := .cells #[.string a0_0, .int .u64 a0_1, .int .i64 a0_2, .string a0_3] 28 (0, 0)) (by (with_reducible repeat (first | refine q07 ?_ _ | refine q08 ?_ | refine q06 ?_ _)); exact BK188.out) hb); have n1_ := q04.mk (q0e (g := gb189) (o := .cells #[.string (⟨#[]⟩ : ByteArray), .string (⟨#[]⟩ : ByteArray), .int .u64 0, .int .i64 0, .int .i64 0, .int .i64 0] 65 (0, 0)) (by (with_reducible repeat (first | refine q07 ?_ _ | refine q08 ?_ | refine q06 ?_ _)); exact BK189.out) hb); have n2_ := q04.mk (q0a (by repeat (first | (with_reducible first | exact HB.out | apply q02 | apply q00 | apply q01 | refine q09 ?_ GE188.out | refine q09 ?_ GE189.out) | exact HB.out)) hb); clear BK188; clear BK189; clear HB; have BK188 := n0_; have BK189 := n1_; have HB := n2_; clear n0_ n1_ n2_; (try clear hb); (try clear hb2); (try clear hk); (try clear hi); have hcz79_0 : w78.cell? ⟨gb188, 0, none⟩ = some (.string a0_0) := (q03 BK188.out 0).trans rfl; have hcz79_1 : w78.cell? ⟨gb188, 1, none⟩ = some (.int .u64 a0_1) := (q03 BK188.out 1).trans rfl; have hcz79_2 : w78.cell? ⟨gb188, 2, none⟩ = some (.int .i64 a0_2) := (q03 BK188.out 2).trans rfl; have hcz79_3 : w78.cell? ⟨gb188, 3, none⟩ = some (.string a0_3) := (q03 BK188.out 3).trans rfl; have hfz79_0 := q05 BK188.out 0; have hfz79_1 := q05 BK188.out 1; have hfz79_2 := q05 BK188.out 2; have hfz79_3 := q05 BK188.out 3) | ((with_reducible refine q0h (f := 68) rfl ?_); refine q0r (some 37) rfl rfl Try.func68 (by kernel_rfl) rfl #[.string (a0_3.extract ((ji6) : Int).toNat a0_3.size)] rfl (by (try simp only [List.map_toArray, List.map_cons, List.map_nil]); first | done | (simp only [hji6]; rfl) | rfl | (simp only [List.length_drop, List.length_take]; rfl)) ?_; (with_reducible refine (code_Uint.calls (a0_3.extract ((ji6) : Int).toNat a0_3.size) t196 t197 t198 _ A9.out).mono ?_); rintro e w80 ⟨rfl, hb⟩; refine ⟨_, rfl, ?_⟩; have n0_ := q04.mk (q0e (g := gb188) (o := .cells #[.string a0_0, .int .u64 a0_1, .int .i64 a0_2, .string a0_3] 28 (0, 0)) (by (with_reducible repeat (first | refine q07 ?_ _ | refine q08 ?_ | refine q06 ?_ _)); exact BK188.out) hb); have n1_ := q04.mk (q0e (g := gb189) (o := .cells #[.string (⟨#[]⟩ : ByteArray), .string (⟨#[]⟩ : ByteArray), .int .u64 0, .int .i64 0, .int .i64 0, .int .i64 0] 65 (0, 0)) (by (with_reducible repeat (first | refine q07 ?_ _ | refine q08 ?_ | refine q06 ?_ _)); exact BK189.out) hb); have n2_ := q04.mk (q0a (by repeat (first | (with_reducible first | exact HB.out | apply q02 | apply q00 | apply q01 | refine q09 ?_ GE188.out | refine q09 ?_ GE189.out) | exact HB.out)) hb); clear BK188; clear BK189; clear HB; have BK188 := n0_; have BK189 := n1_; have HB := n2_; clear n0_ n1_ n2_; (try clear hb); (try clear hb2); (try clear hk); (try clear hi); have hcz81_0 : w80.cell? ⟨gb188, 0, none⟩ = some (.string a0_0) := (q03 BK188.out 0).trans rfl; have hcz81_1 : w80.cell? ⟨gb188, 1, none⟩ = some (.int .u64 a0_1) := (q03 BK188.out 1).trans rfl; have hcz81_2 : w80.cell? ⟨gb188, 2, none⟩ = some (.int .i64 a0_2) := (q03 BK188.out 2).trans rfl; have hcz81_3 : w80.cell? ⟨gb188, 3, none⟩ = some (.string a0_3) := (q03 BK188.out 3).trans rfl; have hfz81_0 := q05 BK188.out 0; have hfz81_1 := q05 BK188.out 1; have hfz81_2 := q05 BK188.out 2; have hfz81_3 := q05 BK188.out 3; have hcz82_0 : w80.cell? ⟨gb189, 0, none⟩ = some (.string (⟨#[]⟩ : ByteArray)) := (q03 BK189.out 0).trans rfl; have hcz82_1 : w80.cell? ⟨gb189, 1, none⟩ = some (.string (⟨#[]⟩ : ByteArray)) := (q03 BK189.out 1).trans rfl; have hcz82_2 : w80.cell? ⟨gb189, 2, none⟩ = some (.int .u64 0) := (q03 BK189.out 2).trans rfl; have hcz82_3 : w80.cell? ⟨gb189, 3, none⟩ = some (.int .i64 0) := (q03 BK189.out 3).trans rfl; have hcz82_4 : w80.cell? ⟨gb189, 4, none⟩ = some (.int .i64 0) := (q03 BK189.out 4).trans rfl; have hcz82_5 : w80.cell? ⟨gb189, 5, none⟩ = some (.int .i64 0) := (q03 BK189.out 5).trans rfl; have hfz82_0 := q05 BK189.out 0; have hfz82_1 := q05 BK189.out 1; have hfz82_2 := q05 BK189.out 2; have hfz82_3 := q05 BK189.out 3; have hfz82_4 := q05 BK189.out 4; have hfz82_5 := q05 BK189.out 5))
        refine bodyPost_ret (q1e rfl _ _ gb189 65 #[.string t190, .string a0_0, .int .u64 a0_1, .int .i64 (wrap64 (t196)), .int .i64 (wrap64 (t193)), .int .i64 0] (0, 0) _ rfl (by (with_reducible repeat (first | refine q07 ?_ _ | refine q08 ?_ | refine q06 ?_ _)); refine q0k (cs := #[.string t190, .string a0_0, .int .u64 a0_1, .int .i64 (wrap64 (t196)), .int .i64 (wrap64 (t193)), .int .i64 0]) ?_ 5 _ rfl; (with_reducible repeat (first | refine q07 ?_ _ | refine q08 ?_ | refine q06 ?_ _)); refine q0k (cs := #[.string t190, .string a0_0, .int .u64 a0_1, .int .i64 (wrap64 (t196)), .int .i64 0, .int .i64 0]) ?_ 4 _ rfl; (with_reducible repeat (first | refine q07 ?_ _ | refine q08 ?_ | refine q06 ?_ _)); refine q0k (cs := #[.string t190, .string a0_0, .int .u64 a0_1, .int .i64 0, .int .i64 0, .int .i64 0]) ?_ 3 _ rfl; (with_reducible repeat (first | refine q07 ?_ _ | refine q08 ?_ | refine q06 ?_ _)); refine q0k (cs := #[.string t190, .string a0_0, .int .u64 0, .int .i64 0, .int .i64 0, .int .i64 0]) ?_ 2 _ rfl; (with_reducible repeat (first | refine q07 ?_ _ | refine q08 ?_ | refine q06 ?_ _)); refine q0k (cs := #[.string t190, .string (⟨#[]⟩ : ByteArray), .int .u64 0, .int .i64 0, .int .i64 0, .int .i64 0]) ?_ 1 _ rfl; (with_reducible repeat (first | refine q07 ?_ _ | refine q08 ?_ | refine q06 ?_ _)); refine q0k (cs := #[.string (⟨#[]⟩ : ByteArray), .string (⟨#[]⟩ : ByteArray), .int .u64 0, .int .i64 0, .int .i64 0, .int .i64 0]) ?_ 0 _ rfl; (with_reducible repeat (first | refine q07 ?_ _ | refine q08 ?_ | refine q06 ?_ _)); exact BK189.out) Try.underlying65 rfl (by kernel_rfl)) rfl ?_
        exact ⟨by first | rfl | (simp [q0c, q0b] <;> rfl) | (simp only [← hji6]; first | rfl | (simp [q0c, q0b] <;> rfl)) | (simp [*, q0c, q0b] <;> rfl), by repeat (first | (with_reducible first | exact HB.out | apply q02 | apply q00 | apply q01 | refine q09 ?_ GE188.out | refine q09 ?_ GE189.out) | exact HB.out)⟩
      ·rw [if_neg c11] at H
       have c11b0 : (t195 == 0) = false := beq_eq_false_iff_ne.mpr c11
       have c11b1 : (t195 != 0) = true := bne_iff_ne.mpr c11
       simp only [Option.some.injEq, Prod.mk.injEq] at H
       obtain ⟨rfl, rfl, rfl, rfl, rfl, rfl, rfl⟩ := H
       go_enter Try.func44, Try.ntmps44
       go_wp2_with (first | ((with_reducible refine q0q (N := 1) rfl ?_); (try (refine q0s (by rfl) ?_; dsimp only)); refine q0p ?hg (N := 1) ?hd (cs := #[.string a0_0, .int .u64 a0_1, .int .i64 a0_2, .string a0_3]) (t := 28) ?hr ?_; (case hd => rfl); (case hg => rfl); (case hr => first | (go_simp; done) | (go_simp; rfl)); intro gb188 hg w83 hbox hb; have n0_ := q04.mk (q0a (by repeat (first | (with_reducible first | exact HB.out | apply q02 | apply q00 | apply q01) | exact HB.out)) hb); have n1_ := q04.mk (hbox); have n2_ := q04.mk ((by rw [hg]; exact (q0d (by repeat (first | (with_reducible first | exact HB.out | apply q02 | apply q00 | apply q01) | exact HB.out))) : w.heap.size ≤ gb188)); have n3_ := q04.mk ((by rw [hg]; exact (q0d (by repeat (first | (with_reducible first | exact HB.out | apply q02 | apply q00 | apply q01) | exact HB.out))) : w.heap.size ≤ gb188)); clear HB; have HB := n0_; have BK188 := n1_; have GW188 := n2_; have GE188 := n3_; clear n0_ n1_ n2_ n3_; clear hb hbox hg) | ((with_reducible refine q0q (N := 2) rfl ?_); (try (refine q0s (by rfl) ?_; dsimp only)); refine q0p ?hg (N := 2) ?hd (cs := #[.string (⟨#[]⟩ : ByteArray), .string (⟨#[]⟩ : ByteArray), .int .u64 0, .int .i64 0, .int .i64 0, .int .i64 0]) (t := 65) ?hr ?_; (case hd => rfl); (case hg => rfl); (case hr => first | (go_simp; done) | (go_simp; rfl)); intro gb189 hg w84 hbox hb; have n0_ := q04.mk (q0e (g := gb188) (o := .cells #[.string a0_0, .int .u64 a0_1, .int .i64 a0_2, .string a0_3] 28 (0, 0)) (by (with_reducible repeat (first | refine q07 ?_ _ | refine q08 ?_ | refine q06 ?_ _)); exact BK188.out) hb); have n1_ := q04.mk (q0a (by repeat (first | (with_reducible first | exact HB.out | apply q02 | apply q00 | apply q01 | refine q09 ?_ GE188.out) | exact HB.out)) hb); have n2_ := q04.mk (hbox); have n3_ := q04.mk ((by rw [hg]; exact (q0d (by repeat (first | (with_reducible first | exact HB.out | apply q02 | apply q00 | apply q01 | refine q09 ?_ GE188.out) | exact HB.out))) : w.heap.size ≤ gb189)); have n4_ := q04.mk ((by rw [hg]; exact (q0d (by repeat (first | (with_reducible first | exact HB.out | apply q02 | apply q00 | apply q01 | refine q09 ?_ GE188.out) | exact HB.out))) : w.heap.size ≤ gb189)); have n5_ := q04.mk ((by rw [hg]; exact Nat.ne_of_lt (q1g (g := gb188) (o := .cells #[.string a0_0, .int .u64 a0_1, .int .i64 a0_2, .string a0_3] 28 (0, 0)) (by (with_reducible repeat (first | refine q07 ?_ _ | refine q08 ?_ | refine q06 ?_ _)); exact BK188.out)) : gb188 ≠ gb189)); have n6_ := q04.mk ((by rw [hg]; exact Nat.ne_of_gt (q1g (g := gb188) (o := .cells #[.string a0_0, .int .u64 a0_1, .int .i64 a0_2, .string a0_3] 28 (0, 0)) (by (with_reducible repeat (first | refine q07 ?_ _ | refine q08 ?_ | refine q06 ?_ _)); exact BK188.out)) : gb189 ≠ gb188)); clear BK188; clear HB; have BK188 := n0_; have HB := n1_; have BK189 := n2_; have GW189 := n3_; have GE189 := n4_; have NB188_189 := n5_; have NB189_188 := n6_; clear n0_ n1_ n2_ n3_ n4_ n5_ n6_; clear hb hbox hg; have hnb85 := NB188_189.out; have hnc85 := NB189_188.out; have hcz86_0 : w84.cell? ⟨gb188, 0, none⟩ = some (.string a0_0) := (q03 BK188.out 0).trans rfl; have hcz86_1 : w84.cell? ⟨gb188, 1, none⟩ = some (.int .u64 a0_1) := (q03 BK188.out 1).trans rfl; have hcz86_2 : w84.cell? ⟨gb188, 2, none⟩ = some (.int .i64 a0_2) := (q03 BK188.out 2).trans rfl; have hcz86_3 : w84.cell? ⟨gb188, 3, none⟩ = some (.string a0_3) := (q03 BK188.out 3).trans rfl; have hfz86_0 := q05 BK188.out 0; have hfz86_1 := q05 BK188.out 1; have hfz86_2 := q05 BK188.out 2; have hfz86_3 := q05 BK188.out 3) | ((with_reducible refine q0h (f := 67) rfl ?_); refine q0r (some 17) rfl rfl Try.func67 (by kernel_rfl) rfl #[.string a0_3, .int .i64 520] rfl (by (try simp only [List.map_toArray, List.map_cons, List.map_nil]); first | done | rfl | (simp only [List.length_drop, List.length_take]; rfl)) ?_; (with_reducible refine (code_Field.calls k a0_3 520 t190 t191 t192 _ A2.out).mono ?_); rintro e w87 ⟨rfl, hb⟩; refine ⟨_, rfl, ?_⟩; have n0_ := q04.mk (q0e (g := gb188) (o := .cells #[.string a0_0, .int .u64 a0_1, .int .i64 a0_2, .string a0_3] 28 (0, 0)) (by (with_reducible repeat (first | refine q07 ?_ _ | refine q08 ?_ | refine q06 ?_ _)); exact BK188.out) hb); have n1_ := q04.mk (q0e (g := gb189) (o := .cells #[.string (⟨#[]⟩ : ByteArray), .string (⟨#[]⟩ : ByteArray), .int .u64 0, .int .i64 0, .int .i64 0, .int .i64 0] 65 (0, 0)) (by (with_reducible repeat (first | refine q07 ?_ _ | refine q08 ?_ | refine q06 ?_ _)); exact BK189.out) hb); have n2_ := q04.mk (q0a (by repeat (first | (with_reducible first | exact HB.out | apply q02 | apply q00 | apply q01 | refine q09 ?_ GE188.out | refine q09 ?_ GE189.out) | exact HB.out)) hb); clear BK188; clear BK189; clear HB; have BK188 := n0_; have BK189 := n1_; have HB := n2_; clear n0_ n1_ n2_; (try clear hb); (try clear hb2); (try clear hk); (try clear hi); have hcz88_0 : w87.cell? ⟨gb188, 0, none⟩ = some (.string a0_0) := (q03 BK188.out 0).trans rfl; have hcz88_1 : w87.cell? ⟨gb188, 1, none⟩ = some (.int .u64 a0_1) := (q03 BK188.out 1).trans rfl; have hcz88_2 : w87.cell? ⟨gb188, 2, none⟩ = some (.int .i64 a0_2) := (q03 BK188.out 2).trans rfl; have hcz88_3 : w87.cell? ⟨gb188, 3, none⟩ = some (.string a0_3) := (q03 BK188.out 3).trans rfl; have hfz88_0 := q05 BK188.out 0; have hfz88_1 := q05 BK188.out 1; have hfz88_2 := q05 BK188.out 2; have hfz88_3 := q05 BK188.out 3) | ((with_reducible refine q0h (f := 68) rfl ?_); refine q0r (some 26) rfl rfl Try.func68 (by kernel_rfl) rfl #[.string (a0_3.extract (t191 : Int).toNat a0_3.size)] rfl (by (try simp only [List.map_toArray, List.map_cons, List.map_nil]); first | done | rfl | (simp only [List.length_drop, List.length_take]; rfl)) ?_; (with_reducible refine (code_Uint.calls (a0_3.extract (t191 : Int).toNat a0_3.size) t193 t194 t195 _ A5.out).mono ?_); rintro e w89 ⟨rfl, hb⟩; refine ⟨_, rfl, ?_⟩; have n0_ := q04.mk (q0e (g := gb188) (o := .cells #[.string a0_0, .int .u64 a0_1, .int .i64 a0_2, .string a0_3] 28 (0, 0)) (by (with_reducible repeat (first | refine q07 ?_ _ | refine q08 ?_ | refine q06 ?_ _)); exact BK188.out) hb); have n1_ := q04.mk (q0e (g := gb189) (o := .cells #[.string (⟨#[]⟩ : ByteArray), .string (⟨#[]⟩ : ByteArray), .int .u64 0, .int .i64 0, .int .i64 0, .int .i64 0] 65 (0, 0)) (by (with_reducible repeat (first | refine q07 ?_ _ | refine q08 ?_ | refine q06 ?_ _)); exact BK189.out) hb); have n2_ := q04.mk (q0a (by repeat (first | (with_reducible first | exact HB.out | apply q02 | apply q00 | apply q01 | refine q09 ?_ GE188.out | refine q09 ?_ GE189.out) | exact HB.out)) hb); clear BK188; clear BK189; clear HB; have BK188 := n0_; have BK189 := n1_; have HB := n2_; clear n0_ n1_ n2_; (try clear hb); (try clear hb2); (try clear hk); (try clear hi); have hcz90_0 : w89.cell? ⟨gb188, 0, none⟩ = some (.string a0_0) := (q03 BK188.out 0).trans rfl; have hcz90_1 : w89.cell? ⟨gb188, 1, none⟩ = some (.int .u64 a0_1) := (q03 BK188.out 1).trans rfl; have hcz90_2 : w89.cell? ⟨gb188, 2, none⟩ = some (.int .i64 a0_2) := (q03 BK188.out 2).trans rfl; have hcz90_3 : w89.cell? ⟨gb188, 3, none⟩ = some (.string a0_3) := (q03 BK188.out 3).trans rfl; have hfz90_0 := q05 BK188.out 0; have hfz90_1 := q05 BK188.out 1; have hfz90_2 := q05 BK188.out 2; have hfz90_3 := q05 BK188.out 3) | ((with_reducible refine q0h (f := 68) rfl ?_); refine q0r (some 37) rfl rfl Try.func68 (by kernel_rfl) rfl #[.string (a0_3.extract ((ji6) : Int).toNat a0_3.size)] rfl (by (try simp only [List.map_toArray, List.map_cons, List.map_nil]); first | done | (simp only [hji6]; rfl) | rfl | (simp only [List.length_drop, List.length_take]; rfl)) ?_; (with_reducible refine (code_Uint.calls (a0_3.extract ((ji6) : Int).toNat a0_3.size) t196 t197 t198 _ A9.out).mono ?_); rintro e w91 ⟨rfl, hb⟩; refine ⟨_, rfl, ?_⟩; have n0_ := q04.mk (q0e (g := gb188) (o := .cells #[.string a0_0, .int .u64 a0_1, .int .i64 a0_2, .string a0_3] 28 (0, 0)) (by (with_reducible repeat (first | refine q07 ?_ _ | refine q08 ?_ | refine q06 ?_ _)); exact BK188.out) hb); have n1_ := q04.mk (q0e (g := gb189) (o := .cells #[.string (⟨#[]⟩ : ByteArray), .string (⟨#[]⟩ : ByteArray), .int .u64 0, .int .i64 0, .int .i64 0, .int .i64 0] 65 (0, 0)) (by (with_reducible repeat (first | refine q07 ?_ _ | refine q08 ?_ | refine q06 ?_ _)); exact BK189.out) hb); have n2_ := q04.mk (q0a (by repeat (first | (with_reducible first | exact HB.out | apply q02 | apply q00 | apply q01 | refine q09 ?_ GE188.out | refine q09 ?_ GE189.out) | exact HB.out)) hb); clear BK188; clear BK189; clear HB; have BK188 := n0_; have BK189 := n1_; have HB := n2_; clear n0_ n1_ n2_; (try clear hb); (try clear hb2); (try clear hk); (try clear hi); have hcz92_0 : w91.cell? ⟨gb188, 0, none⟩ = some (.string a0_0) := (q03 BK188.out 0).trans rfl; have hcz92_1 : w91.cell? ⟨gb188, 1, none⟩ = some (.int .u64 a0_1) := (q03 BK188.out 1).trans rfl; have hcz92_2 : w91.cell? ⟨gb188, 2, none⟩ = some (.int .i64 a0_2) := (q03 BK188.out 2).trans rfl; have hcz92_3 : w91.cell? ⟨gb188, 3, none⟩ = some (.string a0_3) := (q03 BK188.out 3).trans rfl; have hfz92_0 := q05 BK188.out 0; have hfz92_1 := q05 BK188.out 1; have hfz92_2 := q05 BK188.out 2; have hfz92_3 := q05 BK188.out 3; have hcz93_0 : w91.cell? ⟨gb189, 0, none⟩ = some (.string (⟨#[]⟩ : ByteArray)) := (q03 BK189.out 0).trans rfl; have hcz93_1 : w91.cell? ⟨gb189, 1, none⟩ = some (.string (⟨#[]⟩ : ByteArray)) := (q03 BK189.out 1).trans rfl; have hcz93_2 : w91.cell? ⟨gb189, 2, none⟩ = some (.int .u64 0) := (q03 BK189.out 2).trans rfl; have hcz93_3 : w91.cell? ⟨gb189, 3, none⟩ = some (.int .i64 0) := (q03 BK189.out 3).trans rfl; have hcz93_4 : w91.cell? ⟨gb189, 4, none⟩ = some (.int .i64 0) := (q03 BK189.out 4).trans rfl; have hcz93_5 : w91.cell? ⟨gb189, 5, none⟩ = some (.int .i64 0) := (q03 BK189.out 5).trans rfl; have hfz93_0 := q05 BK189.out 0; have hfz93_1 := q05 BK189.out 1; have hfz93_2 := q05 BK189.out 2; have hfz93_3 := q05 BK189.out 3; have hfz93_4 := q05 BK189.out 4; have hfz93_5 := q05 BK189.out 5))
       refine bodyPost_ret (q1e rfl _ _ gb189 65 #[.string t190, .string a0_0, .int .u64 a0_1, .int .i64 (wrap64 (t196)), .int .i64 (wrap64 (t193)), .int .i64 0] (0, 0) _ rfl (by (with_reducible repeat (first | refine q07 ?_ _ | refine q08 ?_ | refine q06 ?_ _)); refine q0k (cs := #[.string t190, .string a0_0, .int .u64 a0_1, .int .i64 (wrap64 (t196)), .int .i64 (wrap64 (t193)), .int .i64 0]) ?_ 5 _ rfl; (with_reducible repeat (first | refine q07 ?_ _ | refine q08 ?_ | refine q06 ?_ _)); refine q0k (cs := #[.string t190, .string a0_0, .int .u64 a0_1, .int .i64 (wrap64 (t196)), .int .i64 0, .int .i64 0]) ?_ 4 _ rfl; (with_reducible repeat (first | refine q07 ?_ _ | refine q08 ?_ | refine q06 ?_ _)); refine q0k (cs := #[.string t190, .string a0_0, .int .u64 a0_1, .int .i64 0, .int .i64 0, .int .i64 0]) ?_ 3 _ rfl; (with_reducible repeat (first | refine q07 ?_ _ | refine q08 ?_ | refine q06 ?_ _)); refine q0k (cs := #[.string t190, .string a0_0, .int .u64 0, .int .i64 0, .int .i64 0, .int .i64 0]) ?_ 2 _ rfl; (with_reducible repeat (first | refine q07 ?_ _ | refine q08 ?_ | refine q06 ?_ _)); refine q0k (cs := #[.string t190, .string (⟨#[]⟩ : ByteArray), .int .u64 0, .int .i64 0, .int .i64 0, .int .i64 0]) ?_ 1 _ rfl; (with_reducible repeat (first | refine q07 ?_ _ | refine q08 ?_ | refine q06 ?_ _)); refine q0k (cs := #[.string (⟨#[]⟩ : ByteArray), .string (⟨#[]⟩ : ByteArray), .int .u64 0, .int .i64 0, .int .i64 0, .int .i64 0]) ?_ 0 _ rfl; (with_reducible repeat (first | refine q07 ?_ _ | refine q08 ?_ | refine q06 ?_ _)); exact BK189.out) Try.underlying65 rfl (by kernel_rfl)) rfl ?_
       exact ⟨by first | rfl | (simp [q0c, q0b] <;> rfl) | (simp only [← hji6]; first | rfl | (simp [q0c, q0b] <;> rfl)) | (simp [*, q0c, q0b] <;> rfl), by repeat (first | (with_reducible first | exact HB.out | apply q02 | apply q00 | apply q01 | refine q09 ?_ GE188.out | refine q09 ?_ GE189.out) | exact HB.out)⟩
     ·rw [if_neg c10] at H
      have c10b0 : (t192 == 0) = false := beq_eq_false_iff_ne.mpr c10
      have c10b1 : (t192 != 0) = true := bne_iff_ne.mpr c10
      simp only [Option.some.injEq, Prod.mk.injEq] at H
      obtain ⟨rfl, rfl, rfl, rfl, rfl, rfl, rfl⟩ := H
      go_enter Try.func44, Try.ntmps44
      go_wp2_with (first | ((with_reducible refine q0q (N := 1) rfl ?_); (try (refine q0s (by rfl) ?_; dsimp only)); refine q0p ?hg (N := 1) ?hd (cs := #[.string a0_0, .int .u64 a0_1, .int .i64 a0_2, .string a0_3]) (t := 28) ?hr ?_; (case hd => rfl); (case hg => rfl); (case hr => first | (go_simp; done) | (go_simp; rfl)); intro gb188 hg w94 hbox hb; have n0_ := q04.mk (q0a (by repeat (first | (with_reducible first | exact HB.out | apply q02 | apply q00 | apply q01) | exact HB.out)) hb); have n1_ := q04.mk (hbox); have n2_ := q04.mk ((by rw [hg]; exact (q0d (by repeat (first | (with_reducible first | exact HB.out | apply q02 | apply q00 | apply q01) | exact HB.out))) : w.heap.size ≤ gb188)); have n3_ := q04.mk ((by rw [hg]; exact (q0d (by repeat (first | (with_reducible first | exact HB.out | apply q02 | apply q00 | apply q01) | exact HB.out))) : w.heap.size ≤ gb188)); clear HB; have HB := n0_; have BK188 := n1_; have GW188 := n2_; have GE188 := n3_; clear n0_ n1_ n2_ n3_; clear hb hbox hg) | ((with_reducible refine q0q (N := 2) rfl ?_); (try (refine q0s (by rfl) ?_; dsimp only)); refine q0p ?hg (N := 2) ?hd (cs := #[.string (⟨#[]⟩ : ByteArray), .string (⟨#[]⟩ : ByteArray), .int .u64 0, .int .i64 0, .int .i64 0, .int .i64 0]) (t := 65) ?hr ?_; (case hd => rfl); (case hg => rfl); (case hr => first | (go_simp; done) | (go_simp; rfl)); intro gb189 hg w95 hbox hb; have n0_ := q04.mk (q0e (g := gb188) (o := .cells #[.string a0_0, .int .u64 a0_1, .int .i64 a0_2, .string a0_3] 28 (0, 0)) (by (with_reducible repeat (first | refine q07 ?_ _ | refine q08 ?_ | refine q06 ?_ _)); exact BK188.out) hb); have n1_ := q04.mk (q0a (by repeat (first | (with_reducible first | exact HB.out | apply q02 | apply q00 | apply q01 | refine q09 ?_ GE188.out) | exact HB.out)) hb); have n2_ := q04.mk (hbox); have n3_ := q04.mk ((by rw [hg]; exact (q0d (by repeat (first | (with_reducible first | exact HB.out | apply q02 | apply q00 | apply q01 | refine q09 ?_ GE188.out) | exact HB.out))) : w.heap.size ≤ gb189)); have n4_ := q04.mk ((by rw [hg]; exact (q0d (by repeat (first | (with_reducible first | exact HB.out | apply q02 | apply q00 | apply q01 | refine q09 ?_ GE188.out) | exact HB.out))) : w.heap.size ≤ gb189)); have n5_ := q04.mk ((by rw [hg]; exact Nat.ne_of_lt (q1g (g := gb188) (o := .cells #[.string a0_0, .int .u64 a0_1, .int .i64 a0_2, .string a0_3] 28 (0, 0)) (by (with_reducible repeat (first | refine q07 ?_ _ | refine q08 ?_ | refine q06 ?_ _)); exact BK188.out)) : gb188 ≠ gb189)); have n6_ := q04.mk ((by rw [hg]; exact Nat.ne_of_gt (q1g (g := gb188) (o := .cells #[.string a0_0, .int .u64 a0_1, .int .i64 a0_2, .string a0_3] 28 (0, 0)) (by (with_reducible repeat (first | refine q07 ?_ _ | refine q08 ?_ | refine q06 ?_ _)); exact BK188.out)) : gb189 ≠ gb188)); clear BK188; clear HB; have BK188 := n0_; have HB := n1_; have BK189 := n2_; have GW189 := n3_; have GE189 := n4_; have NB188_189 := n5_; have NB189_188 := n6_; clear n0_ n1_ n2_ n3_ n4_ n5_ n6_; clear hb hbox hg; have hnb96 := NB188_189.out; have hnc96 := NB189_188.out; have hcz97_0 : w95.cell? ⟨gb188, 0, none⟩ = some (.string a0_0) := (q03 BK188.out 0).trans rfl; have hcz97_1 : w95.cell? ⟨gb188, 1, none⟩ = some (.int .u64 a0_1) := (q03 BK188.out 1).trans rfl; have hcz97_2 : w95.cell? ⟨gb188, 2, none⟩ = some (.int .i64 a0_2) := (q03 BK188.out 2).trans rfl; have hcz97_3 : w95.cell? ⟨gb188, 3, none⟩ = some (.string a0_3) := (q03 BK188.out 3).trans rfl; have hfz97_0 := q05 BK188.out 0; have hfz97_1 := q05 BK188.out 1; have hfz97_2 := q05 BK188.out 2; have hfz97_3 := q05 BK188.out 3) | ((with_reducible refine q0h (f := 67) rfl ?_); refine q0r (some 17) rfl rfl Try.func67 (by kernel_rfl) rfl #[.string a0_3, .int .i64 520] rfl (by (try simp only [List.map_toArray, List.map_cons, List.map_nil]); first | done | rfl | (simp only [List.length_drop, List.length_take]; rfl)) ?_; (with_reducible refine (code_Field.calls k a0_3 520 t190 t191 t192 _ A2.out).mono ?_); rintro e w98 ⟨rfl, hb⟩; refine ⟨_, rfl, ?_⟩; have n0_ := q04.mk (q0e (g := gb188) (o := .cells #[.string a0_0, .int .u64 a0_1, .int .i64 a0_2, .string a0_3] 28 (0, 0)) (by (with_reducible repeat (first | refine q07 ?_ _ | refine q08 ?_ | refine q06 ?_ _)); exact BK188.out) hb); have n1_ := q04.mk (q0e (g := gb189) (o := .cells #[.string (⟨#[]⟩ : ByteArray), .string (⟨#[]⟩ : ByteArray), .int .u64 0, .int .i64 0, .int .i64 0, .int .i64 0] 65 (0, 0)) (by (with_reducible repeat (first | refine q07 ?_ _ | refine q08 ?_ | refine q06 ?_ _)); exact BK189.out) hb); have n2_ := q04.mk (q0a (by repeat (first | (with_reducible first | exact HB.out | apply q02 | apply q00 | apply q01 | refine q09 ?_ GE188.out | refine q09 ?_ GE189.out) | exact HB.out)) hb); clear BK188; clear BK189; clear HB; have BK188 := n0_; have BK189 := n1_; have HB := n2_; clear n0_ n1_ n2_; (try clear hb); (try clear hb2); (try clear hk); (try clear hi); have hcz99_0 : w98.cell? ⟨gb188, 0, none⟩ = some (.string a0_0) := (q03 BK188.out 0).trans rfl; have hcz99_1 : w98.cell? ⟨gb188, 1, none⟩ = some (.int .u64 a0_1) := (q03 BK188.out 1).trans rfl; have hcz99_2 : w98.cell? ⟨gb188, 2, none⟩ = some (.int .i64 a0_2) := (q03 BK188.out 2).trans rfl; have hcz99_3 : w98.cell? ⟨gb188, 3, none⟩ = some (.string a0_3) := (q03 BK188.out 3).trans rfl; have hfz99_0 := q05 BK188.out 0; have hfz99_1 := q05 BK188.out 1; have hfz99_2 := q05 BK188.out 2; have hfz99_3 := q05 BK188.out 3) | ((with_reducible refine q0h (f := 68) rfl ?_); refine q0r (some 26) rfl rfl Try.func68 (by kernel_rfl) rfl #[.string (a0_3.extract (t191 : Int).toNat a0_3.size)] rfl (by (try simp only [List.map_toArray, List.map_cons, List.map_nil]); first | done | rfl | (simp only [List.length_drop, List.length_take]; rfl)) ?_; (with_reducible refine (code_Uint.calls (a0_3.extract (t191 : Int).toNat a0_3.size) t193 t194 t195 _ A5.out).mono ?_); rintro e w100 ⟨rfl, hb⟩; refine ⟨_, rfl, ?_⟩; have n0_ := q04.mk (q0e (g := gb188) (o := .cells #[.string a0_0, .int .u64 a0_1, .int .i64 a0_2, .string a0_3] 28 (0, 0)) (by (with_reducible repeat (first | refine q07 ?_ _ | refine q08 ?_ | refine q06 ?_ _)); exact BK188.out) hb); have n1_ := q04.mk (q0e (g := gb189) (o := .cells #[.string (⟨#[]⟩ : ByteArray), .string (⟨#[]⟩ : ByteArray), .int .u64 0, .int .i64 0, .int .i64 0, .int .i64 0] 65 (0, 0)) (by (with_reducible repeat (first | refine q07 ?_ _ | refine q08 ?_ | refine q06 ?_ _)); exact BK189.out) hb); have n2_ := q04.mk (q0a (by repeat (first | (with_reducible first | exact HB.out | apply q02 | apply q00 | apply q01 | refine q09 ?_ GE188.out | refine q09 ?_ GE189.out) | exact HB.out)) hb); clear BK188; clear BK189; clear HB; have BK188 := n0_; have BK189 := n1_; have HB := n2_; clear n0_ n1_ n2_; (try clear hb); (try clear hb2); (try clear hk); (try clear hi); have hcz101_0 : w100.cell? ⟨gb188, 0, none⟩ = some (.string a0_0) := (q03 BK188.out 0).trans rfl; have hcz101_1 : w100.cell? ⟨gb188, 1, none⟩ = some (.int .u64 a0_1) := (q03 BK188.out 1).trans rfl; have hcz101_2 : w100.cell? ⟨gb188, 2, none⟩ = some (.int .i64 a0_2) := (q03 BK188.out 2).trans rfl; have hcz101_3 : w100.cell? ⟨gb188, 3, none⟩ = some (.string a0_3) := (q03 BK188.out 3).trans rfl; have hfz101_0 := q05 BK188.out 0; have hfz101_1 := q05 BK188.out 1; have hfz101_2 := q05 BK188.out 2; have hfz101_3 := q05 BK188.out 3) | ((with_reducible refine q0h (f := 68) rfl ?_); refine q0r (some 37) rfl rfl Try.func68 (by kernel_rfl) rfl #[.string (a0_3.extract ((ji6) : Int).toNat a0_3.size)] rfl (by (try simp only [List.map_toArray, List.map_cons, List.map_nil]); first | done | (simp only [hji6]; rfl) | rfl | (simp only [List.length_drop, List.length_take]; rfl)) ?_; (with_reducible refine (code_Uint.calls (a0_3.extract ((ji6) : Int).toNat a0_3.size) t196 t197 t198 _ A9.out).mono ?_); rintro e w102 ⟨rfl, hb⟩; refine ⟨_, rfl, ?_⟩; have n0_ := q04.mk (q0e (g := gb188) (o := .cells #[.string a0_0, .int .u64 a0_1, .int .i64 a0_2, .string a0_3] 28 (0, 0)) (by (with_reducible repeat (first | refine q07 ?_ _ | refine q08 ?_ | refine q06 ?_ _)); exact BK188.out) hb); have n1_ := q04.mk (q0e (g := gb189) (o := .cells #[.string (⟨#[]⟩ : ByteArray), .string (⟨#[]⟩ : ByteArray), .int .u64 0, .int .i64 0, .int .i64 0, .int .i64 0] 65 (0, 0)) (by (with_reducible repeat (first | refine q07 ?_ _ | refine q08 ?_ | refine q06 ?_ _)); exact BK189.out) hb); have n2_ := q04.mk (q0a (by repeat (first | (with_reducible first | exact HB.out | apply q02 | apply q00 | apply q01 | refine q09 ?_ GE188.out | refine q09 ?_ GE189.out) | exact HB.out)) hb); clear BK188; clear BK189; clear HB; have BK188 := n0_; have BK189 := n1_; have HB := n2_; clear n0_ n1_ n2_; (try clear hb); (try clear hb2); (try clear hk); (try clear hi); have hcz103_0 : w102.cell? ⟨gb188, 0, none⟩ = some (.string a0_0) := (q03 BK188.out 0).trans rfl; have hcz103_1 : w102.cell? ⟨gb188, 1, none⟩ = some (.int .u64 a0_1) := (q03 BK188.out 1).trans rfl; have hcz103_2 : w102.cell? ⟨gb188, 2, none⟩ = some (.int .i64 a0_2) := (q03 BK188.out 2).trans rfl; have hcz103_3 : w102.cell? ⟨gb188, 3, none⟩ = some (.string a0_3) := (q03 BK188.out 3).trans rfl; have hfz103_0 := q05 BK188.out 0; have hfz103_1 := q05 BK188.out 1; have hfz103_2 := q05 BK188.out 2; have hfz103_3 := q05 BK188.out 3; have hcz104_0 : w102.cell? ⟨gb189, 0, none⟩ = some (.string (⟨#[]⟩ : ByteArray)) := (q03 BK189.out 0).trans rfl; have hcz104_1 : w102.cell? ⟨gb189, 1, none⟩ = some (.string (⟨#[]⟩ : ByteArray)) := (q03 BK189.out 1).trans rfl; have hcz104_2 : w102.cell? ⟨gb189, 2, none⟩ = some (.int .u64 0) := (q03 BK189.out 2).trans rfl; have hcz104_3 : w102.cell? ⟨gb189, 3, none⟩ = some (.int .i64 0) := (q03 BK189.out 3).trans rfl; have hcz104_4 : w102.cell? ⟨gb189, 4, none⟩ = some (.int .i64 0) := (q03 BK189.out 4).trans rfl; have hcz104_5 : w102.cell? ⟨gb189, 5, none⟩ = some (.int .i64 0) := (q03 BK189.out 5).trans rfl; have hfz104_0 := q05 BK189.out 0; have hfz104_1 := q05 BK189.out 1; have hfz104_2 := q05 BK189.out 2; have hfz104_3 := q05 BK189.out 3; have hfz104_4 := q05 BK189.out 4; have hfz104_5 := q05 BK189.out 5))
      refine bodyPost_ret (q1e rfl _ _ gb189 65 #[.string t190, .string a0_0, .int .u64 a0_1, .int .i64 (wrap64 (t196)), .int .i64 (wrap64 (t193)), .int .i64 0] (0, 0) _ rfl (by (with_reducible repeat (first | refine q07 ?_ _ | refine q08 ?_ | refine q06 ?_ _)); refine q0k (cs := #[.string t190, .string a0_0, .int .u64 a0_1, .int .i64 (wrap64 (t196)), .int .i64 (wrap64 (t193)), .int .i64 0]) ?_ 5 _ rfl; (with_reducible repeat (first | refine q07 ?_ _ | refine q08 ?_ | refine q06 ?_ _)); refine q0k (cs := #[.string t190, .string a0_0, .int .u64 a0_1, .int .i64 (wrap64 (t196)), .int .i64 0, .int .i64 0]) ?_ 4 _ rfl; (with_reducible repeat (first | refine q07 ?_ _ | refine q08 ?_ | refine q06 ?_ _)); refine q0k (cs := #[.string t190, .string a0_0, .int .u64 a0_1, .int .i64 0, .int .i64 0, .int .i64 0]) ?_ 3 _ rfl; (with_reducible repeat (first | refine q07 ?_ _ | refine q08 ?_ | refine q06 ?_ _)); refine q0k (cs := #[.string t190, .string a0_0, .int .u64 0, .int .i64 0, .int .i64 0, .int .i64 0]) ?_ 2 _ rfl; (with_reducible repeat (first | refine q07 ?_ _ | refine q08 ?_ | refine q06 ?_ _)); refine q0k (cs := #[.string t190, .string (⟨#[]⟩ : ByteArray), .int .u64 0, .int .i64 0, .int .i64 0, .int .i64 0]) ?_ 1 _ rfl; (with_reducible repeat (first | refine q07 ?_ _ | refine q08 ?_ | refine q06 ?_ _)); refine q0k (cs := #[.string (⟨#[]⟩ : ByteArray), .string (⟨#[]⟩ : ByteArray), .int .u64 0, .int .i64 0, .int .i64 0, .int .i64 0]) ?_ 0 _ rfl; (with_reducible repeat (first | refine q07 ?_ _ | refine q08 ?_ | refine q06 ?_ _)); exact BK189.out) Try.underlying65 rfl (by kernel_rfl)) rfl ?_
      exact ⟨by first | rfl | (simp [q0c, q0b] <;> rfl) | (simp only [← hji6]; first | rfl | (simp [q0c, q0b] <;> rfl)) | (simp [*, q0c, q0b] <;> rfl), by repeat (first | (with_reducible first | exact HB.out | apply q02 | apply q00 | apply q01 | refine q09 ?_ GE188.out | refine q09 ?_ GE189.out) | exact HB.out)⟩
    ·rw [if_neg c8] at H
     exact absurd H (by simp)
   ·rw [if_neg c7] at H
    exact absurd H (by simp)
  ·rw [if_neg c4] at H
   exact absurd H (by simp)
 ·rw [if_neg c3] at H
  exact absurd H (by simp)
def freshetlaw12_own.f (l0 : List (S28)) : Option ((List (S28))) := (some (([] : List (S28)) : List (S28))).bind fun y214 => (if y214.length + l0.length < 2932031007402 then ((some (y214 ++ l0 : List (S28))).bind fun y217 => (if y217.length < 2932031007402 then ((some (y217 ++ [(⟨(⟨#[]⟩ : ByteArray), 0, 77, (⟨#[]⟩ : ByteArray)⟩ : S28)] : List (S28))).bind fun y220 => (if 0 ≤ (l0.length : Int) then (if (l0.length : Int) ≤ (y220.length : Int) then (some (y220.take ((l0.length : Int) : Int).toNat)) else (none)) else (none))) else (none))) else (none))
set_option maxHeartbeats 8000000 in
set_option maxRecDepth 100000 in
theorem freshetlaw12_own.calls (A0 : Option Addr) (c0 : Nat) (l0 : List (S28)) (r : List (S28)) (w : World) (hr0 : Kd.C k28 w A0 l0.length l0) (hc0 : l0.length ≤ c0) (h : freshetlaw12_own.f l0 = some r) :
  Calls Try.prog 20 #[.slice A0 l0.length c0] w fun e w' => ∃ v0_ : Value, e = .returned (v0_) ∧ Kd.R k28 28 w' w.heap.size (fun _ => True) v0_ r ∧ Below w.heap.size w w' := by
 have hu28 := Try.underlying28
 have HR0 := q04.mk hr0
 have HC0 := q04.mk hc0
 clear hr0 hc0
 have HB := q04.mk (Below.refl w.heap.size w)
 have H : ((some (([] : List (S28)) : List (S28))).bind fun y214 => (if y214.length + l0.length < 2932031007402 then ((some (y214 ++ l0 : List (S28))).bind fun y217 => (if y217.length < 2932031007402 then ((some (y217 ++ [(⟨(⟨#[]⟩ : ByteArray), 0, 77, (⟨#[]⟩ : ByteArray)⟩ : S28)] : List (S28))).bind fun y220 => (if 0 ≤ (l0.length : Int) then (if (l0.length : Int) ≤ (y220.length : Int) then (some (y220.take ((l0.length : Int) : Int).toNat)) else (none)) else (none))) else (none))) else (none))) = some r := h
 clear h
 obtain ⟨y214, hy214⟩ : ∃ y_ : List (S28), y_ = (([] : List (S28))) := ⟨_, rfl⟩
 replace H : (if y214.length + l0.length < 2932031007402 then ((some (y214 ++ l0 : List (S28))).bind fun y217 => (if y217.length < 2932031007402 then ((some (y217 ++ [(⟨(⟨#[]⟩ : ByteArray), 0, 77, (⟨#[]⟩ : ByteArray)⟩ : S28)] : List (S28))).bind fun y220 => (if 0 ≤ (l0.length : Int) then (if (l0.length : Int) ≤ (y220.length : Int) then (some (y220.take ((l0.length : Int) : Int).toNat)) else (none)) else (none))) else (none))) else (none)) = some r := by first | (rw [hy214]; with_reducible exact H) | (have H2_ := (Option.bind_some _ _).symm.trans H; rw [hy214]; with_reducible exact H2_) | (have H2_ := (Option.bind_some _ _).symm.trans H; with_reducible exact H2_) | with_reducible exact H | (rw [hy214]; exact H) | exact H
 have Ny214 := q04.mk hy214
 clear hy214
 by_cases c2 : y214.length + l0.length < 2932031007402
 ·rw [if_pos c2] at H
  have LMc2 := q04.mk c2
  clear c2
  obtain ⟨y217, hy217⟩ : ∃ y_ : List (S28), y_ = (y214 ++ l0) := ⟨_, rfl⟩
  replace H : (if y217.length < 2932031007402 then ((some (y217 ++ [(⟨(⟨#[]⟩ : ByteArray), 0, 77, (⟨#[]⟩ : ByteArray)⟩ : S28)] : List (S28))).bind fun y220 => (if 0 ≤ (l0.length : Int) then (if (l0.length : Int) ≤ (y220.length : Int) then (some (y220.take ((l0.length : Int) : Int).toNat)) else (none)) else (none))) else (none)) = some r := by first | (rw [hy217]; with_reducible exact H) | (have H2_ := (Option.bind_some _ _).symm.trans H; rw [hy217]; with_reducible exact H2_) | (have H2_ := (Option.bind_some _ _).symm.trans H; with_reducible exact H2_) | with_reducible exact H | (rw [hy217]; exact H) | exact H
  have Ny217 := q04.mk hy217
  clear hy217
  by_cases c3 : y217.length < 2932031007402
  ·rw [if_pos c3] at H
   have LMc3 := q04.mk c3
   clear c3
   obtain ⟨y220, hy220⟩ : ∃ y_ : List (S28), y_ = (y217 ++ [(⟨(⟨#[]⟩ : ByteArray), 0, 77, (⟨#[]⟩ : ByteArray)⟩ : S28)]) := ⟨_, rfl⟩
   replace H : (if 0 ≤ (l0.length : Int) then (if (l0.length : Int) ≤ (y220.length : Int) then (some (y220.take ((l0.length : Int) : Int).toNat)) else (none)) else (none)) = some r := by first | (rw [hy220]; with_reducible exact H) | (have H2_ := (Option.bind_some _ _).symm.trans H; rw [hy220]; with_reducible exact H2_) | (have H2_ := (Option.bind_some _ _).symm.trans H; with_reducible exact H2_) | with_reducible exact H | (rw [hy220]; exact H) | exact H
   have Ny220 := q04.mk hy220
   clear hy220
   by_cases c4 : 0 ≤ (l0.length : Int)
   ·rw [if_pos c4] at H
    have c4b0 := eq_true c4
    have c4b1 : decide (0 ≤ (l0.length : Int)) = true := decide_eq_true c4
    clear c4
    by_cases c5 : (l0.length : Int) ≤ (y220.length : Int)
    ·rw [if_pos c5] at H
     have c5b0 := eq_true c5
     have c5b1 : decide ((l0.length : Int) ≤ (y220.length : Int)) = true := decide_eq_true c5
     clear c5
     obtain ⟨y223, hy223⟩ : ∃ y_ : List (S28), y_ = (y220.take ((l0.length : Int) : Int).toNat) := ⟨_, rfl⟩
     replace H : (some y223) = some r := by first | (rw [hy223]; with_reducible exact H) | (have H2_ := (Option.bind_some _ _).symm.trans H; rw [hy223]; with_reducible exact H2_) | (have H2_ := (Option.bind_some _ _).symm.trans H; with_reducible exact H2_) | with_reducible exact H | (rw [hy223]; exact H) | exact H
     have Ny223 := q04.mk hy223
     clear hy223
     obtain rfl := Option.some.inj H
     go_enter Try.func20, Try.ntmps20
     go_wp2_with (first | ((with_reducible refine q0q (N := 4) rfl ?_); refine Kd.R_lit k28 _ 28 ?hg (N := 4) ?hd (xs := ([] : List (S28))) (inner := []) (ok := fun _ => True) (okp := fun _ => True) ?hr ?hp (fun _ hk => hk) trivial (Below.refl _ _) (Nat.le_refl _) (by simp) ?_; (case hd => rfl); (case hg => rfl); (case hr => first | (go_simp; done) | (go_simp; rfl)); (case hp => exact (Reps.none _ _)); intro v215 w6 ho7 hb hg_ hnew_; clear hg_ hnew_; (first | rw [← Ny214.out] at ho7 | (simp only [Int.reduceToNat] at ho7; rw [← Ny214.out] at ho7)); have n0_ := q04.mk (Kd.R_lower ho7 (q0d (by repeat (first | (with_reducible first | exact HB.out | apply q02 | apply q00 | apply q01) | exact HB.out)))); have n1_ := q04.mk (q0a (by repeat (first | (with_reducible first | exact HB.out | apply q02 | apply q00 | apply q01) | exact HB.out)) hb); clear HB; have HO216 := n0_; have HB := n1_; clear n0_ n1_; clear hb ho7) | ((with_reducible refine gate_builtin (b := .append) (xs := #[.tmp 4, .tmp 5]) rfl ?_); at_builtin; refine Kd.R_append_rows k28 (w0 := w) w.heap.size rfl (.tmp 4) (.tmp 5) 32 28 (.agg #[(.string ⟨#[]⟩), (.int .u64 0), (.int .i64 0), (.string ⟨#[]⟩)]) 48 rfl Try.underlying32 info28 rfl (by decide) (by omega) v215 y214 l0 _ _ _ (fun _ => True) (fun _ => False) rfl rfl ?aO ?aR (fun _ _ h => h) (fun _ h => h.elim) ?aF ?aB ?aS ?aL ?_; (case aR => repeat (first | exact (Kd.C_below HR0.out HB.out) | (with_reducible refine Kd.C_alloc ?_ _) | (with_reducible refine Kd.C_drewN ?_ _) | (with_reducible refine Kd.C_drew ?_))); (case aB => exact (by repeat (first | (with_reducible first | exact HB.out | apply q02 | apply q00 | apply q01) | exact HB.out))); (case aF => exact (fun _ _ => trivial)); (case aO => exact (by (with_reducible repeat (first | apply Kd.R_alloc | apply Kd.R_drewN | apply Kd.R_drew)); exact HO216.out)); (case aS => exact (q0d (by repeat (first | (with_reducible first | exact HB.out | apply q02 | apply q00 | apply q01) | exact HB.out)))); (case aL => have := LMc2.out; omega); intro v218 w8 ho hb hg hat; rw [← Ny217.out] at ho; have n0_ := q04.mk (hb); have n1_ := q04.mk (ho); clear HB; clear HO216; have HB := n0_; have HO219 := n1_; clear n0_ n1_; clear ho hb hg hat) | ((with_reducible refine gate_builtin (b := .append) (xs := #[.tmp 7, .tmp 9]) rfl ?_); at_builtin; refine Kd.R_append k28 (w0 := w) w.heap.size rfl (.tmp 7) (.tmp 9) 32 28 (.agg #[(.string ⟨#[]⟩), (.int .u64 0), (.int .i64 0), (.string ⟨#[]⟩)]) 48 rfl Try.underlying32 info28 rfl (by decide) (by omega) v218 y217 (⟨(⟨#[]⟩ : ByteArray), 0, 77, (⟨#[]⟩ : ByteArray)⟩ : S28) [.string (⟨#[]⟩ : ByteArray), .int .u64 0, .int .i64 77, .string (⟨#[]⟩ : ByteArray)] (fun _ => True) (fun _ => False) rfl rfl ?aP (fun _ hk => hk.elim) ?aF ?aO ?aB ?aS ?aL ?_; (case aP => exact k28_mkM _ _ _ (⟨(⟨#[]⟩ : ByteArray), 0, 77, (⟨#[]⟩ : ByteArray)⟩ : S28)); (case aB => exact (by repeat (first | (with_reducible first | exact HB.out | apply q02 | apply q00 | apply q01) | exact HB.out))); (case aF => exact (fun _ _ => trivial)); (case aO => exact (by (with_reducible repeat (first | apply Kd.R_alloc | apply Kd.R_drewN | apply Kd.R_drew)); exact HO219.out)); (case aS => exact (q0d (by repeat (first | (with_reducible first | exact HB.out | apply q02 | apply q00 | apply q01) | exact HB.out)))); (case aL => have := LMc3.out; omega); intro v221 w9 ho hb hg hat; rw [← Ny220.out] at ho; have n0_ := q04.mk (hb); have n1_ := q04.mk (ho); clear HB; clear HO219; have HB := n0_; have HO222 := n1_; clear n0_ n1_; clear ho hb hg hat; obtain ⟨Ao10, co10, eo10⟩ := Kd.R_slice HO222.out; subst eo10; have q11 : ((l0.length : Int) : Int) ≤ ((y220.length : Int) : Int) := of_decide_eq_true (by first | (with_reducible assumption) | assumption); obtain ⟨i011, hi011, _, hsz11, _⟩ := info_parts info28; have hcut11 := cut_to (P := Try.prog) 32 28 .i64 Try.underlying32 hi011 Ao10 y220.length co10 (l0.length : Int) (of_decide_eq_true (by first | (with_reducible assumption) | assumption)) q11 (Kd.R_reads' HO222.out).2.1; have hr11 := Kd.R_take (m := ((l0.length : Int) : Int).toNat) HO222.out (by omega); have hy11 : y223.length = ((l0.length : Int) : Int).toNat := (by rw [Ny223.out, List.length_take]; omega); rw [← Ny223.out] at hr11; rw [← hy11] at hr11 hcut11; clear hy11 hi011 hsz11 HO222; have HO225 := q04.mk hr11; clear hr11; replace q11 := eq_true q11))
     go_ret
     exact ⟨_, by first | rfl | (simp [q0c, q0b] <;> rfl) | (simp [*, q0c, q0b] <;> rfl), by (with_reducible repeat (first | apply Kd.R_alloc | apply Kd.R_drewN | apply Kd.R_drew)); exact HO225.out, by repeat (first | (with_reducible first | exact HB.out | apply q02 | apply q00 | apply q01) | exact HB.out)⟩
    ·rw [if_neg c5] at H
     exact absurd H (by simp)
   ·rw [if_neg c4] at H
    exact absurd H (by simp)
  ·rw [if_neg c3] at H
   exact absurd H (by simp)
 ·rw [if_neg c2] at H
  exact absurd H (by simp)
def freshetref08_Ahead.f (a0_0 : ByteArray) (a0_1 : Int) (a0_2 : Int) (a0_3 : ByteArray) (a1 : ByteArray) (a2 : Int) : Option (Bool) := if (Op.bytesLess a0_0.toList a1.toList) = true then (some true) else (if a0_0.toList = a1.toList then (some (decide (a0_1 > a2))) else (some false))
set_option maxHeartbeats 8000000 in
set_option maxRecDepth 100000 in
theorem freshetref08_Ahead.calls (a0_0 : ByteArray) (a0_1 : Int) (a0_2 : Int) (a0_3 : ByteArray) (a1 : ByteArray) (a2 : Int) (r : Bool) (w : World) (h : freshetref08_Ahead.f a0_0 a0_1 a0_2 a0_3 a1 a2 = some r) :
  Calls Try.prog 84 #[.agg #[.string a0_0, .int .u64 a0_1, .int .i64 a0_2, .string a0_3], .string a1, .int .u64 a2] w fun e w' => e = .returned (.bool r) ∧ Below w.heap.size w w' := by
 have hu28 := Try.underlying28
 have HB := q04.mk (Below.refl w.heap.size w)
 have H : (if (Op.bytesLess a0_0.toList a1.toList) = true then (some true) else (if a0_0.toList = a1.toList then (some (decide (a0_1 > a2))) else (some false))) = some r := h
 clear h
 by_cases c4 : (Op.bytesLess a0_0.toList a1.toList) = true
 ·rw [if_pos c4] at H
  have c4b0 : (Op.bytesLess a0_0.toList a1.toList) = true := c4
  have c4k1 := less_anti c4b0
  have c4k2 := less_ne1 c4b0
  have c4k3 := less_ne2 c4b0
  have c4k4 := eq_false (less_ne c4b0)
  have c4k5 := eq_false (less_ne c4b0).symm
  clear c4
  obtain rfl := Option.some.inj H
  go_enter Try.func84, Try.ntmps84
  go_wp2_with (first | ((with_reducible refine q0q (N := 3) rfl ?_); refine q0p ?hg (N := 3) ?hd (cs := #[.string a0_0, .int .u64 a0_1, .int .i64 a0_2, .string a0_3]) (t := 28) ?hr ?_; (case hd => rfl); (case hg => rfl); (case hr => first | (go_simp; done) | (go_simp; rfl)); intro gb226 hg w5 hbox hb; have n0_ := q04.mk (q0a (by repeat (first | (with_reducible first | exact HB.out | apply q02 | apply q00 | apply q01) | exact HB.out)) hb); have n1_ := q04.mk (hbox); have n2_ := q04.mk ((by rw [hg]; exact (q0d (by repeat (first | (with_reducible first | exact HB.out | apply q02 | apply q00 | apply q01) | exact HB.out))) : w.heap.size ≤ gb226)); have n3_ := q04.mk ((by rw [hg]; exact (q0d (by repeat (first | (with_reducible first | exact HB.out | apply q02 | apply q00 | apply q01) | exact HB.out))) : w.heap.size ≤ gb226)); clear HB; have HB := n0_; have BK226 := n1_; have GW226 := n2_; have GE226 := n3_; clear n0_ n1_ n2_ n3_; clear hb hbox hg; have hcz6_0 : w5.cell? ⟨gb226, 0, none⟩ = some (.string a0_0) := (q03 BK226.out 0).trans rfl; have hcz6_1 : w5.cell? ⟨gb226, 1, none⟩ = some (.int .u64 a0_1) := (q03 BK226.out 1).trans rfl; have hcz6_2 : w5.cell? ⟨gb226, 2, none⟩ = some (.int .i64 a0_2) := (q03 BK226.out 2).trans rfl; have hcz6_3 : w5.cell? ⟨gb226, 3, none⟩ = some (.string a0_3) := (q03 BK226.out 3).trans rfl; have hfz6_0 := q05 BK226.out 0; have hfz6_1 := q05 BK226.out 1; have hfz6_2 := q05 BK226.out 2; have hfz6_3 := q05 BK226.out 3))
  go_ret
  exact ⟨by first | rfl | (simp [q0c, q0b] <;> rfl) | (simp [*, q0c, q0b] <;> rfl), by repeat (first | (with_reducible first | exact HB.out | apply q02 | apply q00 | apply q01 | refine q09 ?_ GE226.out) | exact HB.out)⟩
 ·rw [if_neg c4] at H
  have c4b0 : (Op.bytesLess a0_0.toList a1.toList) = false := by simpa using c4
  have c4k1 := less_orB c4b0
  have c4k2 := eq_true (less_or c4b0)
  clear c4
  by_cases c7 : a0_0.toList = a1.toList
  ·rw [if_pos c7] at H
   have c7b0 : (a0_0.toList == a1.toList) = true := beq_iff_eq.mpr c7
   have c7b1 : (a0_0.toList != a1.toList) = false := bne_eq_false_iff_eq.mpr c7
   clear c7
   obtain rfl := Option.some.inj H
   go_enter Try.func84, Try.ntmps84
   go_wp2_with (first | ((with_reducible refine q0q (N := 3) rfl ?_); refine q0p ?hg (N := 3) ?hd (cs := #[.string a0_0, .int .u64 a0_1, .int .i64 a0_2, .string a0_3]) (t := 28) ?hr ?_; (case hd => rfl); (case hg => rfl); (case hr => first | (go_simp; done) | (go_simp; rfl)); intro gb226 hg w8 hbox hb; have n0_ := q04.mk (q0a (by repeat (first | (with_reducible first | exact HB.out | apply q02 | apply q00 | apply q01) | exact HB.out)) hb); have n1_ := q04.mk (hbox); have n2_ := q04.mk ((by rw [hg]; exact (q0d (by repeat (first | (with_reducible first | exact HB.out | apply q02 | apply q00 | apply q01) | exact HB.out))) : w.heap.size ≤ gb226)); have n3_ := q04.mk ((by rw [hg]; exact (q0d (by repeat (first | (with_reducible first | exact HB.out | apply q02 | apply q00 | apply q01) | exact HB.out))) : w.heap.size ≤ gb226)); clear HB; have HB := n0_; have BK226 := n1_; have GW226 := n2_; have GE226 := n3_; clear n0_ n1_ n2_ n3_; clear hb hbox hg; have hcz9_0 : w8.cell? ⟨gb226, 0, none⟩ = some (.string a0_0) := (q03 BK226.out 0).trans rfl; have hcz9_1 : w8.cell? ⟨gb226, 1, none⟩ = some (.int .u64 a0_1) := (q03 BK226.out 1).trans rfl; have hcz9_2 : w8.cell? ⟨gb226, 2, none⟩ = some (.int .i64 a0_2) := (q03 BK226.out 2).trans rfl; have hcz9_3 : w8.cell? ⟨gb226, 3, none⟩ = some (.string a0_3) := (q03 BK226.out 3).trans rfl; have hfz9_0 := q05 BK226.out 0; have hfz9_1 := q05 BK226.out 1; have hfz9_2 := q05 BK226.out 2; have hfz9_3 := q05 BK226.out 3))
   go_ret
   exact ⟨by first | rfl | (simp [q0c, q0b] <;> rfl) | (simp [*, q0c, q0b] <;> rfl), by repeat (first | (with_reducible first | exact HB.out | apply q02 | apply q00 | apply q01 | refine q09 ?_ GE226.out) | exact HB.out)⟩
  ·rw [if_neg c7] at H
   have c7b0 : (a0_0.toList == a1.toList) = false := beq_eq_false_iff_ne.mpr c7
   try have c7k2 : Op.bytesLess a1.toList a0_0.toList = true := (less_or c4b0).resolve_right (fun e => by simp [e] at c7b0)
   have c7b1 : (a0_0.toList != a1.toList) = true := bne_iff_ne.mpr c7
   obtain rfl := Option.some.inj H
   go_enter Try.func84, Try.ntmps84
   go_wp2_with (first | ((with_reducible refine q0q (N := 3) rfl ?_); refine q0p ?hg (N := 3) ?hd (cs := #[.string a0_0, .int .u64 a0_1, .int .i64 a0_2, .string a0_3]) (t := 28) ?hr ?_; (case hd => rfl); (case hg => rfl); (case hr => first | (go_simp; done) | (go_simp; rfl)); intro gb226 hg w10 hbox hb; have n0_ := q04.mk (q0a (by repeat (first | (with_reducible first | exact HB.out | apply q02 | apply q00 | apply q01) | exact HB.out)) hb); have n1_ := q04.mk (hbox); have n2_ := q04.mk ((by rw [hg]; exact (q0d (by repeat (first | (with_reducible first | exact HB.out | apply q02 | apply q00 | apply q01) | exact HB.out))) : w.heap.size ≤ gb226)); have n3_ := q04.mk ((by rw [hg]; exact (q0d (by repeat (first | (with_reducible first | exact HB.out | apply q02 | apply q00 | apply q01) | exact HB.out))) : w.heap.size ≤ gb226)); clear HB; have HB := n0_; have BK226 := n1_; have GW226 := n2_; have GE226 := n3_; clear n0_ n1_ n2_ n3_; clear hb hbox hg; have hcz11_0 : w10.cell? ⟨gb226, 0, none⟩ = some (.string a0_0) := (q03 BK226.out 0).trans rfl; have hcz11_1 : w10.cell? ⟨gb226, 1, none⟩ = some (.int .u64 a0_1) := (q03 BK226.out 1).trans rfl; have hcz11_2 : w10.cell? ⟨gb226, 2, none⟩ = some (.int .i64 a0_2) := (q03 BK226.out 2).trans rfl; have hcz11_3 : w10.cell? ⟨gb226, 3, none⟩ = some (.string a0_3) := (q03 BK226.out 3).trans rfl; have hfz11_0 := q05 BK226.out 0; have hfz11_1 := q05 BK226.out 1; have hfz11_2 := q05 BK226.out 2; have hfz11_3 := q05 BK226.out 3))
   go_ret
   exact ⟨by first | rfl | (simp [q0c, q0b] <;> rfl) | (simp [*, q0c, q0b] <;> rfl), by repeat (first | (with_reducible first | exact HB.out | apply q02 | apply q00 | apply q01 | refine q09 ?_ GE226.out) | exact HB.out)⟩
end Go.Proofs.Ytaigmemmgjlhgaa.Print
-- TabF
namespace Go.Proofs.Ytaigmemmgjlhgaa.Tab
open Go.RowKit Aid Txt Print PLink Block Bits Go.Proofs.YtaigmemmgjlhgaaW.PrintWords
theorem low_byte (n i : Nat) : ((UInt8.ofNat (n / 256 ^ i % 256)).toNat : Int) = (n : Int) / 2 ^ (8 * i) % 256 := by
 rw [PCode.toNat_ofNat_lt (by omega)]
 have e : (256 : Nat) ^ i = 2 ^ (8 * i) := by rw [Nat.pow_mul]
 rw [e]
 rw [Int.natCast_emod, Int.natCast_ediv, Int.natCast_pow]
 rfl
theorem low_set (n k i : Nat) (h : i < k) : (PTable.low n i ++ PBloom.zeros (k - i)).set i (UInt8.ofNat (n / 256 ^ i % 256)) = PTable.low n (i + 1) ++ PBloom.zeros (k - (i + 1)) := by
 obtain ⟨m, hm⟩ : ∃ m, k - i = m + 1 := ⟨k - i - 1, by omega⟩
 rw [hm, show k - (i + 1) = m by omega, PTable.low_snoc, List.set_append, if_neg (by rw [PTable.low_length]; omega), PTable.low_length, Nat.sub_self]
 simp [PBloom.zeros, List.replicate_succ]
set_option maxRecDepth 100000 in
set_option maxHeartbeats 4000000 in
theorem low_any (n k : Nat) (hk : k ≤ 8) (w : World) :
  Calls Try.prog 61 #[.int .u64 n, .int .i64 k] w fun e w' => e = .returned (.string (B (PTable.low n k))) ∧ Below w.heap.size w w' := by
 have hmk := Bloom.make_u8 k (by omega) w
 have hB0 := Bloom.bts_made w k
 have hz : PBloom.zeros k = PTable.low n 0 ++ PBloom.zeros (k - 0) := rfl
 rw [hz] at hB0
 have hb0 := (Below.refl w.heap.size w).alloc (Nat.le_refl _) (.cells (madeCells #[.int .u8 0] k) 5)
 go_enter Try.func61, Try.ntmps61
 go_wp2_with fail
 generalize w.alloc _ = W0 at hB0 hb0 ⊢
 generalize hg : w.heap.size = g at hB0 hb0 ⊢
 go_loopw [11] (fun v11 wr => ∃ i : Nat, i ≤ k ∧ v11 = .int .i64 i ∧ Bts wr g (PTable.low n i ++ PBloom.zeros (k - i)) ∧ Below g w wr) (fun v11 _ => k - (intOf v11).toNat)
 case atStart => exact ⟨0, by omega, rfl, hB0, hb0⟩
 case round =>
  obtain ⟨i, hi, rfl, hB, hb⟩ := hrel
  have hlen : (PTable.low n i ++ PBloom.zeros (k - i)).length = k := by rw [List.length_append, PTable.low_length]; simp [PBloom.zeros]; omega
  by_cases hlt : i < k
  ·have t1 : ((i : Int) < (k : Int)) = True := eq_true (by omega)
   have gc := hB.cell i (by omega)
   have gf := hB.free i (by omega)
   have hput := hB.put i (by omega) (UInt8.ofNat (n / 256 ^ i % 256))
   have hbp := hb.setCell (p := ⟨g, i, none⟩) (Nat.le_refl _) (.int .u8 ((UInt8.ofNat (n / 256 ^ i % 256)).toNat : Int))
   rw [low_byte] at hput hbp
   go_wp2_with fail
   go_roundw
   case rel =>
    refine ⟨i + 1, by omega, by go_num, ?_, hbp⟩
    rw [low_set n k i hlt] at hput
    exact hput
   case measure => simp [intOf]; omega
  ·have t1 : ((i : Int) < (k : Int)) = False := eq_false (by omega)
   obtain rfl : i = k := by omega
   have kt := hB.text (n := i) hlen i
   rw [Nat.sub_self, show PBloom.zeros 0 = [] from rfl, List.append_nil] at kt
   go_wp2_with fail
   go_ret
   exact ⟨rfl, by rw [hg]; exact hb⟩
set_option maxHeartbeats 1000000 in
theorem foot_any (f i : Nat) (hf : f < 9223372036854775808) (hi : i < 9223372036854775808) (w : World) :
  Calls Try.prog 39 #[.int .i64 f, .int .i64 i] w fun e w' => e = .returned (.string (B (PTable.foot f i))) ∧ Below w.heap.size w w' := by
 have L1 := Lib.hid (low_any f 8 (by omega))
 have L2 := Lib.hid (low_any i 8 (by omega))
 have hz1 : (B (PTable.low f 8)).size = 8 := by rw [q0o, PTable.low_length]
 have hz2 : (B (PTable.low i 8)).size = 8 := by rw [q0o, PTable.low_length]
 have S1 := Lib.hid (fun w => sum_Of.calls (B (PTable.low f 8) ++ B (PTable.low i 8)) _ w (of_f _ (by rw [ByteArray.size_append, hz1, hz2]; omega)))
 have hE : PTable.foot f i = L ((B (PTable.low f 8) ++ B (PTable.low i 8)) ++ B (PTable.low (PCrc.sum 0 (L (B (PTable.low f 8) ++ B (PTable.low i 8)))).toNat 4)) := by
  rw [PTable.low_four, q1c, q1c, L_B, L_B, L_B]
  rfl
 have HE := Lib.hid hE
 clear hE
 have hlt := (PCrc.sum 0 (L (B (PTable.low f 8) ++ B (PTable.low i 8)))).isLt
 generalize hcc : (PCrc.sum 0 (L (B (PTable.low f 8) ++ B (PTable.low i 8)))).toNat = c at HE hlt
 have hI : I (PCrc.sum 0 (L (B (PTable.low f 8) ++ B (PTable.low i 8)))) = (c : Int) := by rw [← hcc]; rfl
 rw [hI] at S1
 clear hcc hI
 have L3 := Lib.hid (low_any c 4 (by omega))
 have hz3 : (B (PTable.low c 4)).size = 4 := by rw [q0o, PTable.low_length]
 generalize B (PTable.low c 4) = d at L3 HE hz3
 generalize B (PTable.low f 8) = a at L1 S1 HE hz1
 generalize B (PTable.low i 8) = b at L2 S1 HE hz2
 have u1 : IntKind.u64.wrap (f : Int) = (f : Int) := q0w (by omega) (by omega)
 have u2 : IntKind.u64.wrap (i : Int) = (i : Int) := q0w (by omega) (by omega)
 have u3 : IntKind.u64.wrap (c : Int) = (c : Int) := q0w (by omega) (by omega)
 go_enter Try.func39, Try.ntmps39
 go_wp2_with fail
 refine (L1.out _).mono ?_
 rintro e w1 ⟨rfl, hb1⟩
 go_wp2_with fail
 refine (L2.out _).mono ?_
 rintro e w2 ⟨rfl, hb2⟩
 go_wp2_with fail
 refine (S1.out _).mono ?_
 rintro e w3 ⟨rfl, hb3⟩
 go_wp2_with fail
 refine (L3.out _).mono ?_
 rintro e w4 ⟨rfl, hb4⟩
 go_wp2_with fail
 go_ret
 refine ⟨?_, q0g (q0g (q0g hb1 hb2) hb3) hb4⟩
 show Ending.returned (Value.string _) = _
 rw [HE.out, B_L]
theorem put_any (s : ByteArray) (hs : s.size ≤ 4611686018427387904) (w : World) :
  Calls Try.prog 33 #[.string s] w fun e w' => e = .returned (.tuple #[.string (B (PFrame.put (L s)).1), .int .i64 ((PFrame.put (L s)).2 : Nat)]) ∧ Below w.heap.size w w' := by
 obtain ⟨k, hk⟩ := (frame_put s hs).rounds
 exact frame_Put.calls k s _ _ w hk
theorem rows_any (s : ByteArray) (hs : s.size ≤ 4611686018427387904) (w : World) :
  Calls Try.prog 42 #[.string s] w fun e w' => ∃ v, e = .returned (.tuple #[v, .int .i64 ((PBlock.rows (L s)).2 : Nat)]) ∧ Kd.R k28 28 w' w.heap.size (fun _ => True) v ((PBlock.rows (L s)).1.map rowB) ∧ Below w.heap.size w w' := by
 obtain ⟨k, hk⟩ := (rows_ev s hs).rounds
 exact block_Rows.calls k s _ _ w hk
theorem one_any (s : ByteArray) (hs : s.size ≤ 1000000) (w : World) :
  Calls Try.prog 41 #[.string s] w fun e w' => e = .returned (.tuple #[.string (B (PTable.one (L s)).1), .bool (PTable.one (L s)).2]) ∧ Below w.heap.size w w' := by
 have h : Ev (fun k => table_one.f k s) (B (PTable.one (L s)).1, (PTable.one (L s)).2) := by
  unfold table_one.f PTable.one
  refine Ev.bind (frame_get s (by omega)) ?_
  dsimp only
  by_cases h0 : (PFrame.get (L s)).2.2 = 0
  ·refine Ev.congr (fun k => if_pos (by omega)) ?_
   rw [h0, q0i]
   have e : (((PFrame.get (L s)).2.1 : Int) == (s.size : Int)) = ((0 : Nat) == 0 && (PFrame.get (L s)).2.1 == s.size) := by
    by_cases h1 : (PFrame.get (L s)).2.1 = s.size
    ·simp [h1]
    ·have a : (((PFrame.get (L s)).2.1 : Int) == (s.size : Int)) = false := beq_false_of_ne (by omega)
     have b : ((PFrame.get (L s)).2.1 == s.size) = false := beq_false_of_ne h1
     rw [a, b]
     rfl
   rw [e]
   exact Ev.now _
  ·refine Ev.congr (fun k => if_neg (by omega)) ?_
   have e : ((PFrame.get (L s)).2.2 == 0) = false := by simp [h0]
   rw [e]
   exact Ev.now _
 obtain ⟨k, hk⟩ := h.rounds
 exact table_one.calls k s _ _ w hk
theorem u64_or_nat (a b : Nat) (ha : a < 18446744073709551616) (hb : b < 18446744073709551616) : Go.bits .or .u64 (a : Int) (b : Int) = ((a ||| b : Nat) : Int) := by
 have hx : a ||| b < 2 ^ 64 := Nat.or_lt_two_pow (by omega) (by omega)
 show IntKind.u64.wrap ((BitVec.ofInt 64 (a : Int) ||| BitVec.ofInt 64 (b : Int)).toNat : Int) = _
 rw [BitVec.toNat_or, ofInt_u64 a (by omega), ofInt_u64 b (by omega)]
 exact q0w (by omega) (by omega)
def num (l : List UInt8) (i : Nat) : Nat := PTable.unlow ((l.drop i).take (8 - i))
theorem num_lt (l : List UInt8) (i : Nat) : num l i < 256 ^ (8 - i) := by
 unfold num
 have h := PTable.unlow_lt ((l.drop i).take (8 - i))
 have h2 : ((l.drop i).take (8 - i)).length ≤ 8 - i := by rw [List.length_take]; omega
 exact Nat.lt_of_lt_of_le h (Nat.pow_le_pow_right (by omega) h2)
theorem num_step (l : List UInt8) (i : Nat) (h : i < 8) (hl : 8 ≤ l.length) : num l i = (l.getD i 0).toNat + 256 * num l (i + 1) := by
 unfold num
 obtain ⟨m, hm⟩ : ∃ m, 8 - i = m + 1 := ⟨8 - i - 1, by omega⟩
 rw [hm, show 8 - (i + 1) = m by omega, List.drop_eq_getElem_cons (show i < l.length by omega), List.take_succ_cons, PTable.unlow, List.getD_eq_getElem?_getD, List.getElem?_eq_getElem (show i < l.length by omega)]
 rfl
theorem num_eight (l : List UInt8) : num l 8 = 0 := by
 unfold num
 rw [Nat.sub_self, List.take_zero]
 rfl
theorem number_loop (s : ByteArray) (hs : 8 ≤ s.size) (hs2 : s.size ≤ 1000000) (most : Int) : ∀ i : Nat, i ≤ 8 → Ev (fun k => table_number.l0 k s most (num (L s) i : Int) ((i : Int) - 1)) (wrap64 (num (L s) 0 : Int), decide ((num (L s) 0 : Int) ≤ IntKind.u64.wrap most)) := by
 intro i
 induction i with
 | zero =>
  intro _
  refine Ev.step (f := fun _ => some (wrap64 (num (L s) 0 : Int), decide ((num (L s) 0 : Int) ≤ IntKind.u64.wrap most))) (fun k => ?_) (Ev.now _)
  simp only [table_number.l0]
  rw [if_neg (by omega)]
 | succ i ih =>
  intro hi
  have h1 := num_step (L s) i (by omega) (by rw [q0i]; exact hs)
  have h2 := num_lt (L s) i
  have h3 : (256 : Nat) ^ (8 - i) ≤ 18446744073709551616 := Nat.le_trans (Nat.pow_le_pow_right (by omega) (show 8 - i ≤ 8 by omega)) (by omega)
  have h4 : ((L s).getD i 0).toNat < 256 := UInt8.toNat_lt _
  have e0 : (((i + 1 : Nat) : Int) - 1) = (i : Int) := by omega
  have hb : bt s (i : Int) = (((L s).getD i 0).toNat : Int) := by have := bt_getD s (i : Int); rwa [Int.toNat_natCast] at this
  have e1 : IntKind.u64.wrap ((num (L s) (i + 1) : Int) * 256) = ((num (L s) (i + 1) * 256 : Nat) : Int) := by
   rw [q0w (by omega) (by omega)]
   omega
  have e2 : IntKind.u64.wrap (((L s).getD i 0).toNat : Int) = (((L s).getD i 0).toNat : Int) := q0w (by omega) (by omega)
  have e3 : Go.bits .or .u64 ((num (L s) (i + 1) * 256 : Nat) : Int) (((L s).getD i 0).toNat : Int) = (num (L s) i : Int) := by
   rw [u64_or_nat _ _ (by omega) (by omega), nat_join 8 (num (L s) (i + 1) * 256) _ (by omega) (by omega)]
   omega
  refine Ev.step (fun k => ?_) (ih (by omega))
  simp only [table_number.l0]
  rw [e0, if_pos (by omega), if_pos (by omega), if_pos (by omega), hb, e1, e2, e3, q0x (by omega) (by omega)]
theorem number_any (s : ByteArray) (hs : 8 ≤ s.size) (hs2 : s.size ≤ 1000000) (most : Int) (w : World) :
  Calls Try.prog 40 #[.string s, .int .i64 most] w fun e w' => e = .returned (.tuple #[.int .i64 (wrap64 (PTable.unlow ((L s).take 8) : Int)), .bool (decide ((PTable.unlow ((L s).take 8) : Int) ≤ IntKind.u64.wrap most))]) ∧ Below w.heap.size w w' := by
 have h := number_loop s hs hs2 most 8 (Nat.le_refl _)
 rw [num_eight] at h
 have e0 : num (L s) 0 = PTable.unlow ((L s).take 8) := rfl
 rw [e0] at h
 obtain ⟨k, hk⟩ := h.rounds
 exact (table_number.calls k s most _ _ w hk).mono fun e w' h => ⟨h.1, h.2.below⟩
end Go.Proofs.Ytaigmemmgjlhgaa.Tab
-- TabE
namespace Go.Proofs.Ytaigmemmgjlhgaa.Tab
open Go.RowKit Aid Txt Print PLink Block Bits Go.Proofs.YtaigmemmgjlhgaaW.PrintWords
def partB (p : PTable.Part) : S65 := ⟨B p.first, B p.last, (p.seq : Int), (p.rows : Int), (p.from_ : Int), (p.to : Int)⟩
theorem uint_le (l : List UInt8) : (PCode.uint l).2.1 ≤ l.length ∧ (PCode.uint l).1 < 18446744073709551616 := by
 have h := PCode.uintAt_err 0 l
 rw [show PCode.uintAt 0 l = PCode.uint l from rfl] at h
 rcases h with h | h | h
 ·have := PCode.uint_ok (l := l) (n := (PCode.uint l).1) (s := (PCode.uint l).2.1) (by rw [← h])
  exact ⟨this.2.2.1, this.2.2.2⟩
 ·rw [h]; exact ⟨Nat.zero_le _, by omega⟩
 ·rw [h]; exact ⟨Nat.zero_le _, by omega⟩
theorem field_le (l : List UInt8) (m : Int) : (PCode.field l m).2.1 ≤ l.length := by
 by_cases h : (PCode.field l m).2.2 = 0
 ·exact (PCode.field_ok (l := l) (t := (PCode.field l m).1) (s := (PCode.field l m).2.1) (by rw [← h])).2.2.1
 ·unfold PCode.field at h ⊢
  split
  ·exact Nat.zero_le _
  ·split
   ·exact Nat.zero_le _
   ·split
    ·exact Nat.zero_le _
    ·rename_i h1 h2 h3
     rw [if_neg h1, if_neg h2, if_neg h3] at h
     exact absurd rfl h
def Tells (x : S28) (q : S65) (ok : Bool) : Prop :=
 match PTable.entryOf (rowS x) with
 | some p => ok = true ∧ q = partB p
 | none => ok = false
theorem entry_tail (T F0 : ByteArray) (F1 v' u' f2 : Int) (e f g N s u v : Nat) : ∃ (q : S65) (ok : Bool), (if (e : Int) = 0 then (if (f : Int) = 0 then (if (g : Int) = 0 then (if (N : Int) = (s : Int) then (if f2 = 1 then (if (u : Int) ≤ 262144 then (if (v : Int) ≥ 1 then (some (T, F0, F1, v', u', (0 : Int), decide ((v : Int) ≤ 1024))) else (some (T, F0, F1, v', u', (0 : Int), false))) else (some (T, F0, F1, v', u', (0 : Int), false))) else (some (T, F0, F1, v', u', (0 : Int), false))) else (some (T, F0, F1, v', u', (0 : Int), false))) else (some (T, F0, F1, v', u', (0 : Int), false))) else (some (T, F0, F1, v', u', (0 : Int), false))) else (some (T, F0, F1, v', u', (0 : Int), false))) = some (q.f0, q.f1, q.f2, q.f3, q.f4, q.f5, ok) ∧ (if e = 0 ∧ f = 0 ∧ g = 0 ∧ N = s ∧ f2 = 1 ∧ u ≤ 262144 ∧ 1 ≤ v ∧ v ≤ 1024 then ok = true ∧ q = ⟨T, F0, F1, v', u', 0⟩ else ok = false) := by
 by_cases c0 : e = 0
 rotate_left
 ·exact ⟨⟨T, F0, F1, v', u', 0⟩, false, by rw [if_neg (by omega)], by rw [if_neg (by omega)]⟩
 by_cases c1 : f = 0
 rotate_left
 ·exact ⟨⟨T, F0, F1, v', u', 0⟩, false, by rw [if_pos (by omega)]; rw [if_neg (by omega)], by rw [if_neg (by omega)]⟩
 by_cases c2 : g = 0
 rotate_left
 ·exact ⟨⟨T, F0, F1, v', u', 0⟩, false, by rw [if_pos (by omega)]; rw [if_pos (by omega)]; rw [if_neg (by omega)], by rw [if_neg (by omega)]⟩
 by_cases c3 : N = s
 rotate_left
 ·exact ⟨⟨T, F0, F1, v', u', 0⟩, false, by rw [if_pos (by omega)]; rw [if_pos (by omega)]; rw [if_pos (by omega)]; rw [if_neg (by omega)], by rw [if_neg (by omega)]⟩
 by_cases c4 : f2 = 1
 rotate_left
 ·exact ⟨⟨T, F0, F1, v', u', 0⟩, false, by rw [if_pos (by omega)]; rw [if_pos (by omega)]; rw [if_pos (by omega)]; rw [if_pos (by omega)]; rw [if_neg (by omega)], by rw [if_neg (by omega)]⟩
 by_cases c5 : u ≤ 262144
 rotate_left
 ·exact ⟨⟨T, F0, F1, v', u', 0⟩, false, by rw [if_pos (by omega)]; rw [if_pos (by omega)]; rw [if_pos (by omega)]; rw [if_pos (by omega)]; rw [if_pos (by omega)]; rw [if_neg (by omega)], by rw [if_neg (by omega)]⟩
 by_cases c6 : 1 ≤ v
 rotate_left
 ·exact ⟨⟨T, F0, F1, v', u', 0⟩, false, by rw [if_pos (by omega)]; rw [if_pos (by omega)]; rw [if_pos (by omega)]; rw [if_pos (by omega)]; rw [if_pos (by omega)]; rw [if_pos (by omega)]; rw [if_neg (by omega)], by rw [if_neg (by omega)]⟩
 by_cases c7 : v ≤ 1024
 ·exact ⟨⟨T, F0, F1, v', u', 0⟩, true, by rw [if_pos (by omega)]; rw [if_pos (by omega)]; rw [if_pos (by omega)]; rw [if_pos (by omega)]; rw [if_pos (by omega)]; rw [if_pos (by omega)]; rw [if_pos (by omega)]; rw [decide_eq_true (show (v : Int) ≤ 1024 by omega)], by rw [if_pos ⟨c0, c1, c2, c3, c4, c5, c6, c7⟩]; exact ⟨rfl, rfl⟩⟩
 ·exact ⟨⟨T, F0, F1, v', u', 0⟩, false, by rw [if_pos (by omega)]; rw [if_pos (by omega)]; rw [if_pos (by omega)]; rw [if_pos (by omega)]; rw [if_pos (by omega)]; rw [if_pos (by omega)]; rw [if_pos (by omega)]; rw [decide_eq_false (show ¬ (v : Int) ≤ 1024 by omega)], by rw [if_neg (by omega)]⟩
set_option maxHeartbeats 1000000 in
theorem entry_ev (x : S28) (hx : Fit x) (hv : x.f3.size ≤ 1000000) : ∃ (q : S65) (ok : Bool), Ev (fun k => table_entry.f k x.f0 x.f1 x.f2 x.f3) (q.f0, q.f1, q.f2, q.f3, q.f4, q.f5, ok) ∧ Tells x q ok := by
 have hf := code_field x.f3 (by omega) 520 (by omega)
 have hF := field_le (L x.f3) 520
 have hl := q0i x.f3
 obtain ⟨E, hE⟩ : ∃ E, PTable.entryOf (rowS x) = E := ⟨_, rfl⟩
 have hdef : PTable.entryOf ⟨L x.f0, x.f1.toNat, x.f2, L x.f3⟩ = E := hE
 unfold PTable.entryOf at hdef
 dsimp only at hdef
 generalize PCode.field (L x.f3) 520 = F at hf hF hdef
 obtain ⟨t, n, e⟩ := F
 dsimp only at hF hdef
 have hu := code_uint (x.f3.extract n x.f3.size) (by rw [ByteArray.size_extract]; omega)
 rw [L_drop] at hu
 have hU := uint_le ((L x.f3).drop n)
 rw [List.length_drop] at hU
 generalize PCode.uint ((L x.f3).drop n) = U at hu hU hdef
 obtain ⟨u, m, f⟩ := U
 dsimp only at hU hdef
 have hw := code_uint (x.f3.extract (n + m) x.f3.size) (by rw [ByteArray.size_extract]; omega)
 rw [L_drop] at hw
 have hV := uint_le ((L x.f3).drop (n + m))
 rw [List.length_drop] at hV
 generalize PCode.uint ((L x.f3).drop (n + m)) = V at hw hV hdef
 obtain ⟨v, k, g⟩ := V
 dsimp only at hV hdef
 rw [hl] at hF hU hV hdef
 have e1 : wrap64 ((n : Int) + (m : Int)) = ((n + m : Nat) : Int) := by rw [q0x (by omega) (by omega)]; omega
 have e2 : wrap64 (((n + m : Nat) : Int) + (k : Int)) = ((n + m + k : Nat) : Int) := by rw [q0x (by omega) (by omega)]; omega
 have E1 := Lib.hid e1
 have E2 := Lib.hid e2
 clear e1 e2
 have n0 : (0 : Int) ≤ (n : Int) := Int.natCast_nonneg _
 have n1 : (n : Int) ≤ (x.f3.size : Int) := by omega
 have m0 : (0 : Int) ≤ ((n + m : Nat) : Int) := Int.natCast_nonneg _
 have m1 : ((n + m : Nat) : Int) ≤ (x.f3.size : Int) := by omega
 have step : ∀ R, (if (e : Int) = 0 then (if (f : Int) = 0 then (if (g : Int) = 0 then (if ((n + m + k : Nat) : Int) = (x.f3.size : Int) then (if x.f2 = 1 then (if (u : Int) ≤ 262144 then (if (v : Int) ≥ 1 then (some (B t, x.f0, x.f1, wrap64 (v : Int), wrap64 (u : Int), (0 : Int), decide ((v : Int) ≤ 1024))) else (some (B t, x.f0, x.f1, wrap64 (v : Int), wrap64 (u : Int), (0 : Int), false))) else (some (B t, x.f0, x.f1, wrap64 (v : Int), wrap64 (u : Int), (0 : Int), false))) else (some (B t, x.f0, x.f1, wrap64 (v : Int), wrap64 (u : Int), (0 : Int), false))) else (some (B t, x.f0, x.f1, wrap64 (v : Int), wrap64 (u : Int), (0 : Int), false))) else (some (B t, x.f0, x.f1, wrap64 (v : Int), wrap64 (u : Int), (0 : Int), false))) else (some (B t, x.f0, x.f1, wrap64 (v : Int), wrap64 (u : Int), (0 : Int), false))) else (some (B t, x.f0, x.f1, wrap64 (v : Int), wrap64 (u : Int), (0 : Int), false))) = some R → Ev (fun k => table_entry.f k x.f0 x.f1 x.f2 x.f3) R := by
  intro R h
  obtain ⟨K, hK⟩ := hf
  refine ⟨K, fun k hk => ?_⟩
  have h0 := hK k hk
  dsimp only at h0 ⊢
  unfold table_entry.f
  rw [h0, Option.bind_some]
  dsimp only
  rw [if_pos n0, if_pos n1, Int.toNat_natCast, hu, Option.bind_some]
  dsimp only
  rw [E1.out, if_pos m0, if_pos m1, Int.toNat_natCast, hw, Option.bind_some]
  dsimp only
  rw [E2.out]
  exact h
 clear hf hu hw
 obtain ⟨q, ok, h1, h2⟩ := entry_tail (B t) x.f0 x.f1 (wrap64 (v : Int)) (wrap64 (u : Int)) x.f2 e f g (n + m + k) x.f3.size u v
 refine ⟨q, ok, step _ h1, ?_⟩
 clear step h1
 unfold Tells
 rw [hE, ← hdef]
 clear hE hdef
 split at h2
 ·rename_i hc
  rw [if_pos hc]
  obtain ⟨rfl, rfl⟩ := h2
  refine ⟨rfl, ?_⟩
  have h0 := hx.s0
  unfold partB
  simp only [B_L]
  rw [q0x (by omega) (by omega), q0x (by omega) (by omega), show ((x.f1.toNat : Nat) : Int) = x.f1 by omega]
  rfl
 ·rename_i hc
  rw [if_neg hc]
  exact h2
theorem entry_any (x : S28) (hx : Fit x) (hv : x.f3.size ≤ 1000000) : ∃ (q : S65) (ok : Bool), Tells x q ok ∧ ∀ w : World,
  Calls Try.prog 44 #[.agg #[.string x.f0, .int .u64 x.f1, .int .i64 x.f2, .string x.f3]] w fun e w' => e = .returned (.tuple #[.agg #[.string q.f0, .string q.f1, .int .u64 q.f2, .int .i64 q.f3, .int .i64 q.f4, .int .i64 q.f5], .bool ok]) ∧ Below w.heap.size w w' := by
 obtain ⟨q, ok, h, ht⟩ := entry_ev x hx hv
 obtain ⟨k, hk⟩ := h.rounds
 exact ⟨q, ok, ht, fun w => table_entry.calls k _ _ _ _ _ _ _ _ _ _ _ w hk⟩
end Go.Proofs.Ytaigmemmgjlhgaa.Tab
-- TabM
namespace Go.Proofs.Ytaigmemmgjlhgaa.Tab
open Go.RowKit Aid Txt Print PLink Block Bits Go.Proofs.YtaigmemmgjlhgaaW.PrintWords
structure At (w : World) (b : Nat) (s f : ByteArray) (A : Option Addr) (c : Nat) (ps : List S65) : Prop where
 blk : Blk w b 26 #[.string s, .string f, .slice A ps.length c, .bool true]
 row : Kd.C k65 w A ps.length ps
 cap : ps.length ≤ c
theorem At.below {w w' : World} {b : Nat} {s f : ByteArray} {A : Option Addr} {c : Nat} {ps : List S65} (h : At w b s f A c ps) (hb : Below w.heap.size w w') : At w' b s f A c ps :=
 ⟨h.blk.below hb h.blk.lt, Kd.C_below h.row hb, h.cap⟩
def NoneIs (x : Bool) (p : Option Addr) (w : World) : Prop := Calls Try.prog 24 #[.pointer p] w fun e w' => e = .returned (.bool x) ∧ w = w'
theorem none_blk (x : Bool) {w : World} {b : Nat} {v0 v1 v2 : Value} (h : Blk w b 26 #[v0, v1, v2, .bool x]) : NoneIs (!x) (some ⟨b, 0, none⟩) w := by
 have c3 := (h.cell 3).trans rfl
 have hlt := h.lt
 unfold NoneIs
 cases x
 all_goals
  go_enter Try.func24, Try.ntmps24
  go_wp2_with fail
  go_ret
  exact ⟨rfl, rfl⟩
theorem At.open_ {w : World} {b : Nat} {s f : ByteArray} {A : Option Addr} {c : Nat} {ps : List S65} (h : At w b s f A c ps) : NoneIs false (some ⟨b, 0, none⟩) w := none_blk true h.blk
section
variable {w : World} {b : Nat} {s f : ByteArray} {A : Option Addr} {c : Nat} {ps : List S65}
def rowsIn (ps : List S65) : Int := (ps.map fun p => p.f3).sum
theorem rowsIn_snoc (ps : List S65) (i : Nat) (h : i < ps.length) : rowsIn (ps.take (i + 1)) = rowsIn (ps.take i) + ps[i].f3 := by
 unfold rowsIn
 rw [List.take_succ_eq_append_getElem h, List.map_append, List.sum_append]
 simp
theorem rowsIn_le (ps : List S65) (hr : ∀ p ∈ ps, 0 ≤ p.f3 ∧ p.f3 ≤ 1024) (i : Nat) : 0 ≤ rowsIn (ps.take i) ∧ rowsIn (ps.take i) ≤ 1024 * i := by
 induction i with
 | zero => simp [rowsIn]
 | succ i ih =>
  by_cases h : i < ps.length
  ·rw [rowsIn_snoc ps i h]
   have := hr _ (List.getElem_mem h)
   omega
  ·rw [List.take_of_length_le (by omega)] at ih ⊢
   omega
theorem at_P (l : List S65) (i : Nat) (h : i < l.length) : rd_T65 l (i : Int) = l[i] := by
 unfold rd_T65
 rw [Int.toNat_natCast, List.getD_eq_getElem?_getD, List.getElem?_eq_getElem h]
 rfl
set_option maxHeartbeats 1000000 in
theorem Len_any (h : At w b s f A c ps) (hr : ∀ p ∈ ps, 0 ≤ p.f3 ∧ p.f3 ≤ 1024) (hl : ps.length ≤ 1000000) : Calls Try.prog 11 #[.pointer (some ⟨b, 0, none⟩)] w fun e w' => e = .returned (.int .i64 (rowsIn ps)) ∧ Below w.heap.size w w' := by
 have H := Lib.hid h.open_
 have c2 := (h.blk.cell 2).trans rfl
 have hlt := h.blk.lt
 have HA := Lib.hid h
 have HR := Lib.hid hr
 clear h hr
 go_enter Try.func11, Try.ntmps11
 go_wp2_with fail
 refine (H.out).mono ?_
 rintro e w' ⟨rfl, rfl⟩
 go_wp2_with fail
 go_loopw [3, 14] (fun v3 v14 wr => ∃ i : Nat, i ≤ ps.length ∧ v3 = .int .i64 (rowsIn (ps.take i)) ∧ v14 = .int .i64 i ∧ Below w.heap.size w wr) (fun _ v14 _ => ps.length - (intOf v14).toNat)
 case atStart => exact ⟨0, by omega, rfl, rfl, Below.refl _ _⟩
 case round =>
  obtain ⟨i, hi, rfl, rfl, hB⟩ := hrel
  by_cases hlt : i < ps.length
  ·have t1 : ((i : Int) < (ps.length : Int)) = True := eq_true (by omega)
   obtain ⟨ad, rfl, k0, k1, k2, k3, k4, k5⟩ := at_T65 (HA.out.below hB).row (i : Int) (by omega) (by omega)
   rw [at_P ps i hlt, Int.toNat_natCast] at k0 k1 k2 k3 k4 k5
   have hs := rowsIn_snoc ps i hlt
   have hle := rowsIn_le ps HR.out i
   have hle2 := rowsIn_le ps HR.out (i + 1)
   rw [hs] at hle2
   have HS := Lib.hid hs
   clear hs
   generalize rowsIn (ps.take i) = n at hle hle2 HS ⊢
   generalize ps[i] = p at *
   go_wp2_with fail
   go_roundw
   case rel => exact ⟨i + 1, by omega, by rw [HS.out], by go_num, hB.alloc hB.size _⟩
   case measure => simp [intOf]; omega
  ·have t1 : ((i : Int) < (ps.length : Int)) = False := eq_false (by omega)
   obtain rfl : i = ps.length := by omega
   rw [List.take_length]
   go_wp2_with fail
   go_ret
   exact ⟨rfl, hB⟩
theorem First_any (h : At w b s f A c ps) : Calls Try.prog 12 #[.pointer (some ⟨b, 0, none⟩)] w fun e w' => e = .returned (.string ((ps.head?.map fun p => p.f0).getD ⟨#[]⟩)) ∧ Below w.heap.size w w' := by
 have H := Lib.hid h.open_
 have c2 := (h.blk.cell 2).trans rfl
 have hlt := h.blk.lt
 have HA := Lib.hid h
 clear h
 cases ps with
 | nil =>
  go_enter Try.func12, Try.ntmps12
  go_wp2_with fail
  refine (H.out).mono ?_
  rintro e w' ⟨rfl, rfl⟩
  go_wp2_with fail
  go_ret
  exact ⟨rfl, Below.refl _ _⟩
 | cons p l =>
  obtain ⟨ad, rfl, k0, k1, k2, k3, k4, k5⟩ := at_T65 HA.out.row 0 (by omega) (by rw [List.length_cons]; omega)
  have e0 : rd_T65 (p :: l) 0 = p := rfl
  rw [e0] at k0
  simp only [Int.toNat_zero, Nat.zero_mul] at k0
  clear k1 k2 k3 k4 k5
  have hz : (((p :: l).length : Int) == 0) = false := beq_false_of_ne (by rw [List.length_cons]; omega)
  have hz1 : ((0 : Int) < ((p :: l).length : Int)) = True := eq_true (by rw [List.length_cons]; omega)
  have hz2 : (0 < (p :: l).length) = True := eq_true (by rw [List.length_cons]; omega)
  rw [show ad.add 0 = ad from rfl] at k0
  generalize hN : (p :: l).length = N at c2 hz hz1 hz2
  go_enter Try.func12, Try.ntmps12
  go_wp2_with fail
  refine (H.out).mono ?_
  rintro e w' ⟨rfl, rfl⟩
  go_wp2_with fail
  go_ret
  exact ⟨rfl, Below.refl _ _⟩
theorem Last_any (h : At w b s f A c ps) (hl : ps.length ≤ 1000000) : Calls Try.prog 13 #[.pointer (some ⟨b, 0, none⟩)] w fun e w' => e = .returned (.string ((ps.getLast?.map fun p => p.f1).getD ⟨#[]⟩)) ∧ Below w.heap.size w w' := by
 have H := Lib.hid h.open_
 have c2 := (h.blk.cell 2).trans rfl
 have hlt := h.blk.lt
 have HA := Lib.hid h
 clear h
 by_cases hn : ps = []
 ·subst hn
  go_enter Try.func13, Try.ntmps13
  go_wp2_with fail
  refine (H.out).mono ?_
  rintro e w' ⟨rfl, rfl⟩
  go_wp2_with fail
  go_ret
  exact ⟨rfl, Below.refl _ _⟩
 ·have hpos := List.length_pos_iff.2 hn
  obtain ⟨N, hN⟩ : ∃ N, ps.length = N + 1 := ⟨ps.length - 1, by omega⟩
  obtain ⟨ad, rfl, k0, k1, k2, k3, k4, k5⟩ := at_T65 HA.out.row (N : Int) (by omega) (by omega)
  have e2 : (ps.getLast?.map fun p => p.f1).getD ⟨#[]⟩ = (rd_T65 ps (N : Int)).f1 := by
   rw [at_P ps _ (by omega), List.getLast?_eq_getElem?, List.getElem?_eq_getElem (by omega)]
   simp [hN]
  rw [e2]
  rw [Int.toNat_natCast] at k1
  clear k0 k2 k3 k4 k5 e2
  rw [hN] at c2 hl
  have e1 : IntKind.i64.wrap (((N + 1 : Nat) : Int) - 1) = (N : Int) := by rw [show ((N + 1 : Nat) : Int) - 1 = (N : Int) by omega]; exact IntWalk.i64_in _ (by omega)
  have z1 : 0 ≤ (N : Int) := by omega
  have z2 : (N : Int) < ((N + 1 : Nat) : Int) := by omega
  have hz : (((N + 1 : Nat) : Int) == 0) = false := beq_false_of_ne (by omega)
  generalize rd_T65 ps (N : Int) = p at k1 ⊢
  generalize hM : N + 1 = M at c2 e1 z2 hz hl
  go_enter Try.func13, Try.ntmps13
  go_wp2_with fail
  refine (H.out).mono ?_
  rintro e w' ⟨rfl, rfl⟩
  go_wp2_with fail
  go_region_held3 (fun w' => w'.cell? ⟨b, 2, none⟩ = some (.slice (some ad) M c) ∧ w'.cell? ⟨(ad.add (N * 6)).block, (ad.add (N * 6)).off + 1, none⟩ = some (.string p.f1)) (exact ⟨c2, k1⟩) (fail)
  go_wp2_with fail
  go_ret
  exact ⟨rfl, q0z (Below.refl _ _) _⟩
end
end Go.Proofs.Ytaigmemmgjlhgaa.Tab
-- TabR
namespace Go.Proofs.Ytaigmemmgjlhgaa.Tab
open Go.RowKit Aid Txt Print PLink Block Bits Go.Proofs.YtaigmemmgjlhgaaW.PrintWords
theorem one_small (s : List UInt8) : (PTable.one s).1.length ≤ 65536 := by
 unfold PTable.one
 dsimp only
 rcases PFrame.get_err s with h | h
 ·exact (PFrame.get_ok (s := s) (p := (PFrame.get s).1) (n := (PFrame.get s).2.1) (by rw [← h])).2.2.2.2.1
 ·rw [h.1]; simp
abbrev partV (p : S65) : Value := .agg #[.string p.f0, .string p.f1, .int .u64 p.f2, .int .i64 p.f3, .int .i64 p.f4, .int .i64 p.f5]
theorem eqPart (d : Nat) (w : World) (x0 y0 x1 y1 : ByteArray) (x2 y2 x3 y3 x4 y4 x5 y5 : Int) :
  (Op.equalIn (d + 2) 65 (.agg #[.string x0, .string x1, .int .u64 x2, .int .i64 x3, .int .i64 x4, .int .i64 x5]) (.agg #[.string y0, .string y1, .int .u64 y2, .int .i64 y3, .int .i64 y4, .int .i64 y5])).run Try.prog w = .ok (x0.toList == y0.toList && (x1.toList == y1.toList && (x2 == y2 && (x3 == y3 && (x4 == y4 && x5 == y5))))) w := by
 refine eqA_of Try.underlying65 (by kernel_rfl) ?_
 refine q1z (by rfl) (by go_simp; rfl) (by go_simp; rfl) (by go_simp) ?_
 refine q1z (by rfl) (by go_simp; rfl) (by go_simp; rfl) (by go_simp) ?_
 refine q1z (by rfl) (by go_simp; rfl) (by go_simp; rfl) (by go_simp) ?_
 refine q1z (by rfl) (by go_simp; rfl) (by go_simp; rfl) (by go_simp) ?_
 refine q1z (by rfl) (by go_simp; rfl) (by go_simp; rfl) (by go_simp) ?_
 exact eqf_last (by rfl) (by go_simp; rfl) (by go_simp; rfl) (by go_simp)
attribute [local go_sem high] eqPart
def ReadOut (w w' : World) (e : Ending) : Option (List PBlock.Row) → Prop
 | some l => ∃ v, e = .returned (.tuple #[v, .int .i64 0]) ∧ Kd.R k28 28 w' w.heap.size (fun _ => True) v (l.map rowB)
 | none => e = .returned (.tuple #[.slice none 0 0, .int .i64 10])
structure Lies (n : Nat) (p : PTable.Part) : Prop where
 le_ : p.from_ ≤ p.to
 to_ : p.to ≤ n
 pos : 1 ≤ p.rows
 rows : p.rows ≤ 1024
section
variable {w : World} {b : Nat} {s f : ByteArray} {A : Option Addr} {c : Nat} {ps : List S65}
set_option maxRecDepth 100000 in
set_option maxHeartbeats 8000000 in
theorem read_any (h : At w b s f A c ps) (hs : s.size ≤ 262144) (p : PTable.Part) (hp : Lies s.size p) :
  Calls Try.prog 29 #[.pointer (some ⟨b, 0, none⟩), partV (partB p)] w fun e w' => ReadOut w w' e (PTable.readT (L s) p) ∧ Below w.heap.size w w' := by
 have hb0 := h.blk
 have hlt := h.blk.lt
 have c0 := (h.blk.cell 0).trans rfl
 clear h
 have hle := hp.le_
 have hto := hp.to_
 have hpos := hp.pos
 have hrw := hp.rows
 clear hp
 have hsl : L (s.extract p.from_ p.to) = ((L s).drop p.from_).take (p.to - p.from_) := by rw [L_extract, List.drop_take]
 have O1 := one_any (s.extract p.from_ p.to) (by rw [ByteArray.size_extract]; omega)
 rw [hsl] at O1
 have O1 := Lib.hid O1
 obtain ⟨R0, hR0⟩ : ∃ R0, PTable.readT (L s) p = R0 := ⟨_, rfl⟩
 rw [hR0]
 unfold PTable.readT at hR0
 dsimp only at hR0
 have hq := one_small (((L s).drop p.from_).take (p.to - p.from_))
 generalize PTable.one (((L s).drop p.from_).take (p.to - p.from_)) = o at O1 hR0 hq
 obtain ⟨q, ok⟩ := o
 dsimp only at O1 hR0 hq
 unfold partB
 generalize hPF : B p.first = PF
 generalize hPL : B p.last = PL
 generalize hQ : B q = Q at O1
 have z1 : (0 : Int) ≤ (p.from_ : Int) := by omega
 have z2 : (p.from_ : Int) ≤ (p.to : Int) := by omega
 have z3 : (p.to : Int) ≤ (s.size : Int) := by omega
 go_enter Try.func29, Try.ntmps29
 go_wp2_with fail
 have BP := Blk.new w 65 #[.string PF, .string PL, .int .u64 (p.seq : Int), .int .i64 (p.rows : Int), .int .i64 (p.from_ : Int), .int .i64 (p.to : Int)]
 have HB := (Below.refl w.heap.size w).alloc (Nat.le_refl _) (.cells #[.string PF, .string PL, .int .u64 (p.seq : Int), .int .i64 (p.rows : Int), .int .i64 (p.from_ : Int), .int .i64 (p.to : Int)] 65)
 have c1 := (HB.cell (p := ⟨b, 0, none⟩) hlt).trans c0
 clear c0
 generalize w.alloc _ = W0 at BP HB c1 ⊢
 have p4 := (BP.cell 4).trans rfl
 have p5 := (BP.cell 5).trans rfl
 go_region_held3 (fun w' => w'.cell? ⟨b, 0, none⟩ = some (.string s) ∧ w'.cell? ⟨w.heap.size, 4, none⟩ = some (.int .i64 (p.from_ : Int)) ∧ w'.cell? ⟨w.heap.size, 5, none⟩ = some (.int .i64 (p.to : Int))) (exact ⟨c1, p4, p5⟩) (first | (((with_reducible refine (O1.out _).mono ?_); rintro e w1 ⟨rfl, hb1⟩; have HB1 := q0g HB.drew hb1; have c1 := (hb1.cell (World.block_lt_of_cell? W0 _ c1)).trans c1; have p4 := (hb1.cell (World.block_lt_of_cell? W0 _ p4)).trans p4; have p5 := (hb1.cell (World.block_lt_of_cell? W0 _ p5)).trans p5)))
 have BP1 := BP.drew.below hb1 BP.lt
 clear hb1 HB BP c1 p4 p5
 cases ok with
 | false =>
  have hr : R0 = none := by rw [← hR0]; rfl
  subst hr
  go_wp2_with fail
  go_ret2
  exact ⟨rfl, HB1⟩
 | true =>
  simp only [true_and] at hR0
  have O2 := rows_any (B q) (by rw [q0o]; omega)
  rw [L_B, hQ] at O2
  generalize PBlock.rows q = RS at O2 hR0
  obtain ⟨rs, er⟩ := RS
  dsimp only at O2 hR0
  have O2 := Lib.hid O2
  have p3 := (BP1.cell 3).trans rfl
  go_wp2_with fail
  refine (O2.out _).mono ?_
  rintro e w2 ⟨v, rfl, hR2, hb2⟩
  have HB2 := q0g HB1 hb2
  have p3 := (hb2.cell (World.block_lt_of_cell? w1 _ p3)).trans p3
  have BP2 := BP1.below hb2 BP1.lt
  obtain ⟨A2, c2, rfl, hc2, hC2⟩ := Kd.R_reads hR2
  rw [List.length_map] at hc2 hC2 hR2 ⊢
  by_cases e0 : er = 0
  rotate_left
  ·have hr : R0 = none := by rw [← hR0, if_neg (fun h => e0 h.1)]
   subst hr
   have m1 : ((er : Int) != 0) = true := by simp [e0]
   go_wp2_with fail
   go_ret2
   exact ⟨rfl, HB2⟩
  subst e0
  by_cases hlen : rs.length = p.rows
  rotate_left
  ·have hr : R0 = none := by rw [← hR0, if_neg (fun h => hlen h.2.1)]
   subst hr
   have m1 : ((rs.length : Int) != (p.rows : Int)) = true := by simp; omega
   go_wp2_with fail
   go_ret2
   exact ⟨rfl, HB2⟩
  have m1 : ((rs.length : Int) != (p.rows : Int)) = false := by simp; omega
  obtain ⟨N, hN⟩ : ∃ N, rs.length = N + 1 := ⟨rs.length - 1, by omega⟩
  obtain ⟨ad, rfl, k0, k1, k2, k3⟩ := q1d hC2 (N : Int) (by omega) (by omega)
  obtain ⟨ad', ea, j0, _, _, _⟩ := q1d hC2 0 (by omega) (by omega)
  injection ea with ea
  subst ea
  have eN : q0f (rs.map rowB) (N : Int) = rowB (rs.getLastD PTable.zeroRow) := by
   unfold q0f
   rw [Int.toNat_natCast, List.getD_eq_getElem?_getD, List.getElem?_map, List.getElem?_eq_getElem (by omega), List.getLastD_eq_getLast?, List.getLast?_eq_getElem?, List.getElem?_eq_getElem (by omega)]
   simp [hN]
  have e1 : q0f (rs.map rowB) 0 = rowB (rs.headD PTable.zeroRow) := by
   cases rs with
   | nil => simp at hN
   | cons r rs => rfl
  rw [eN, Int.toNat_natCast] at k0 k1 k2 k3
  rw [e1] at j0
  simp only [Int.toNat_zero, Nat.zero_mul] at j0
  rw [show ad.add 0 = ad from rfl] at j0
  clear eN e1
  generalize rs.getLastD PTable.zeroRow = z at k0 k1 k2 k3 hR0
  generalize rs.headD PTable.zeroRow = y at j0 hR0
  unfold rowB at k0 k1 k2 k3 j0
  dsimp only at k0 k1 k2 k3 j0
  generalize hY : B y.key = Y at j0
  generalize hZ : B z.key = Z at k0
  rw [hN] at m1 hR2 hC2 hc2 ⊢
  have hw : IntKind.i64.wrap (((N + 1 : Nat) : Int) - 1) = (N : Int) := by rw [show ((N + 1 : Nat) : Int) - 1 = (N : Int) by omega]; exact IntWalk.i64_in _ (by omega)
  have z4 : 0 ≤ (N : Int) := by omega
  have z5 : (N : Int) < ((N + 1 : Nat) : Int) := by omega
  have z6 : (0 : Int) < ((N + 1 : Nat) : Int) := by omega
  rw [← hlen] at p3 BP2 ⊢
  rw [hN] at p3 BP2 ⊢
  generalize hM : N + 1 = M at *
  go_wp2_with fail
  have BE := Blk.new w2 28 #[.string Z, .int .u64 (z.seq : Int), .int .i64 z.kind, .string (B z.value)]
  have HE := (Below.refl w2.heap.size w2).alloc (Nat.le_refl _) (.cells #[.string Z, .int .u64 (z.seq : Int), .int .i64 z.kind, .string (B z.value)] 28)
  generalize w2.alloc _ = W3 at BE HE ⊢
  have HB3 := q0g HB2 HE
  have j0 := (HE.cell (World.block_lt_of_cell? w2 _ j0)).trans j0
  have BP3 := BP2.below HE BP2.lt
  have hR3 := Kd.R_lower (Kd.R_drew (Kd.R_below hR2 HE)) HB1.size
  have q0 := (BP3.cell 0).trans rfl
  have q1 := (BP3.cell 1).trans rfl
  have q2 := (BP3.cell 2).trans rfl
  have q3 := (BP3.cell 3).trans rfl
  have q4 := (BP3.cell 4).trans rfl
  have q5 := (BP3.cell 5).trans rfl
  have r0 := (BE.cell 0).trans rfl
  have r1 := (BE.cell 1).trans rfl
  obtain ⟨b1, hb1⟩ : ∃ b1, (Y.toList == PF.toList) = b1 := ⟨_, rfl⟩
  obtain ⟨b2, hb2'⟩ : ∃ b2, (Z.toList == PL.toList) = b2 := ⟨_, rfl⟩
  obtain ⟨b3, hb3⟩ : ∃ b3, ((z.seq : Int) == (p.seq : Int)) = b3 := ⟨_, rfl⟩
  have z7 : (0 < M) = True := eq_true (by omega)
  have k1 : b1 = true ↔ y.key = p.first := by rw [← hb1, beq_iff_eq, ← hY, ← hPF, Print.L_toList, Print.L_toList, L_B, L_B]
  have k2 : b2 = true ↔ z.key = p.last := by rw [← hb2', beq_iff_eq, ← hZ, ← hPL, Print.L_toList, Print.L_toList, L_B, L_B]
  have k3 : b3 = true ↔ z.seq = p.seq := by rw [← hb3, beq_iff_eq]; omega
  have hres : (b1 && (b2 && b3)) = true ↔ (True ∧ rs.length = p.rows ∧ y.key = p.first ∧ z.key = p.last ∧ z.seq = p.seq) := by
   rw [Bool.and_eq_true, Bool.and_eq_true, k1, k2, k3]
   exact ⟨fun h => ⟨trivial, hlen, h⟩, fun h => h.2.2⟩
  have HRES := Lib.hid hres
  have HR0 := Lib.hid hR0
  clear hres hR0 k1 k2 k3
  cases b1 with
  | false =>
   go_region_held3 (fun w' => w'.cell? ad = some (.string Y) ∧ w'.cell? ⟨w2.heap.size, 0, none⟩ = some (.string Z) ∧ w'.cell? ⟨w2.heap.size, 1, none⟩ = some (.int .u64 (z.seq : Int)) ∧ w'.cell? ⟨w.heap.size, 0, none⟩ = some (.string PF) ∧ w'.cell? ⟨w.heap.size, 1, none⟩ = some (.string PL) ∧ w'.cell? ⟨w.heap.size, 2, none⟩ = some (.int .u64 (p.seq : Int)) ∧ w'.cell? ⟨w.heap.size, 3, none⟩ = some (.int .i64 (M : Int)) ∧ w'.cell? ⟨w.heap.size, 4, none⟩ = some (.int .i64 (p.from_ : Int)) ∧ w'.cell? ⟨w.heap.size, 5, none⟩ = some (.int .i64 (p.to : Int))) (exact ⟨j0, r0, r1, q0, q1, q2, q3, q4, q5⟩) (fail)
   have hr : R0 = none := by
    rw [← HR0.out, if_neg]
    intro h
    have hx := HRES.out.2 h
    simp at hx
   subst hr
   go_wp2_with fail
   go_ret2
   exact ⟨rfl, HB3.drew⟩
  | true =>
   cases b2 with
   | false =>
    go_region_held3 (fun w' => w'.cell? ad = some (.string Y) ∧ w'.cell? ⟨w2.heap.size, 0, none⟩ = some (.string Z) ∧ w'.cell? ⟨w2.heap.size, 1, none⟩ = some (.int .u64 (z.seq : Int)) ∧ w'.cell? ⟨w.heap.size, 0, none⟩ = some (.string PF) ∧ w'.cell? ⟨w.heap.size, 1, none⟩ = some (.string PL) ∧ w'.cell? ⟨w.heap.size, 2, none⟩ = some (.int .u64 (p.seq : Int)) ∧ w'.cell? ⟨w.heap.size, 3, none⟩ = some (.int .i64 (M : Int)) ∧ w'.cell? ⟨w.heap.size, 4, none⟩ = some (.int .i64 (p.from_ : Int)) ∧ w'.cell? ⟨w.heap.size, 5, none⟩ = some (.int .i64 (p.to : Int))) (exact ⟨j0, r0, r1, q0, q1, q2, q3, q4, q5⟩) (fail)
    have hr : R0 = none := by
     rw [← HR0.out, if_neg]
     intro h
     have hx := HRES.out.2 h
     simp at hx
    subst hr
    go_wp2_with fail
    go_ret2
    exact ⟨rfl, HB3.drew⟩
   | true =>
    cases b3 with
    | false =>
     go_region_held3 (fun w' => w'.cell? ad = some (.string Y) ∧ w'.cell? ⟨w2.heap.size, 0, none⟩ = some (.string Z) ∧ w'.cell? ⟨w2.heap.size, 1, none⟩ = some (.int .u64 (z.seq : Int)) ∧ w'.cell? ⟨w.heap.size, 0, none⟩ = some (.string PF) ∧ w'.cell? ⟨w.heap.size, 1, none⟩ = some (.string PL) ∧ w'.cell? ⟨w.heap.size, 2, none⟩ = some (.int .u64 (p.seq : Int)) ∧ w'.cell? ⟨w.heap.size, 3, none⟩ = some (.int .i64 (M : Int)) ∧ w'.cell? ⟨w.heap.size, 4, none⟩ = some (.int .i64 (p.from_ : Int)) ∧ w'.cell? ⟨w.heap.size, 5, none⟩ = some (.int .i64 (p.to : Int))) (exact ⟨j0, r0, r1, q0, q1, q2, q3, q4, q5⟩) (fail)
     have hr : R0 = none := by
      rw [← HR0.out, if_neg]
      intro h
      have hx := HRES.out.2 h
      simp at hx
     subst hr
     go_wp2_with fail
     go_ret2
     exact ⟨rfl, HB3.drew⟩
    | true =>
     go_region_held3 (fun w' => w'.cell? ad = some (.string Y) ∧ w'.cell? ⟨w2.heap.size, 0, none⟩ = some (.string Z) ∧ w'.cell? ⟨w2.heap.size, 1, none⟩ = some (.int .u64 (z.seq : Int)) ∧ w'.cell? ⟨w.heap.size, 0, none⟩ = some (.string PF) ∧ w'.cell? ⟨w.heap.size, 1, none⟩ = some (.string PL) ∧ w'.cell? ⟨w.heap.size, 2, none⟩ = some (.int .u64 (p.seq : Int)) ∧ w'.cell? ⟨w.heap.size, 3, none⟩ = some (.int .i64 (M : Int)) ∧ w'.cell? ⟨w.heap.size, 4, none⟩ = some (.int .i64 (p.from_ : Int)) ∧ w'.cell? ⟨w.heap.size, 5, none⟩ = some (.int .i64 (p.to : Int))) (exact ⟨j0, r0, r1, q0, q1, q2, q3, q4, q5⟩) (fail)
     have hr : R0 = some rs := by rw [← HR0.out, if_pos (HRES.out.1 rfl)]
     subst hr
     go_wp2_with fail
     go_ret2
     exact ⟨⟨_, rfl, hR3⟩, HB3.drew⟩
end
end Go.Proofs.Ytaigmemmgjlhgaa.Tab
-- TabA
namespace Go.Proofs.Ytaigmemmgjlhgaa.Tab
open Go.RowKit Aid Txt Print PLink Block Bits Go.Proofs.YtaigmemmgjlhgaaW.PrintWords
structure Out (w0 w : World) (bo : Nat) (v : Value) (xs : ByteArray) : Prop where
 out : Blk w bo 55 #[v]
 row : w.ownsRow w0.heap.size 5 1 v xs.size (Lib.strCells xs)
 g : w0.heap.size ≤ bo
 low : Below w0.heap.size w0 w
structure Kept (w w' : World) (bo : Nat) (v : Value) : Prop where
 size : w.heap.size ≤ w'.heap.size
 block : ∀ k, k < w.heap.size → k ≠ bo → some k ≠ v.ownBlock → w'.heap[k]? = w.heap[k]?
section
variable {w0 w w' : World} {bo : Nat} {v : Value} {xs : ByteArray}
theorem Out.below (h : Out w0 w bo v xs) (hb : Below w.heap.size w w') : Out w0 w' bo v xs :=
 ⟨h.out.below hb h.out.lt, h.row.kept (q1b hb none) (by cases e : v.ownBlock with | none => exact .inl rfl | some k => exact .inr (by simp)), h.g, q0g h.low hb⟩
theorem Out.put (h : Out w0 w bo v xs) {s : ByteArray} {v' : Value} (ho : w'.ownsRow w0.heap.size 5 1 v' (xs.size + s.size) (Lib.strCells xs ++ Lib.strCells s)) (hg : w.grownBy w' v.ownBlock) :
  Out w0 (w'.setCell ⟨bo, 0, none⟩ v') bo v' (xs ++ s) ∧ Kept w (w'.setCell ⟨bo, 0, none⟩ v') bo v := by
 have n1 := q0y h.row h.out (by decide)
 have o1 := h.out.grown hg (fun e => n1 e.symm)
 have m1 := q0y ho o1 (by decide)
 have ob : ∀ k, v.ownBlock = some k → w0.heap.size ≤ k := fun k hk => (h.row.lt k hk).1
 have low1 : Below w0.heap.size w0 w' := by
  cases e : v.ownBlock with
  | none => rw [e] at hg; exact ⟨hg.os.trans h.low.os, hg.tape.trans h.low.tape, hg.output.trans h.low.output, Nat.le_trans h.low.size hg.size, fun i hi => (hg.block i (Nat.lt_of_lt_of_le hi h.low.size) (by simp)).trans (h.low.block i hi)⟩
  | some k => rw [e] at hg; exact q0v h.low (ob k e) hg
 have k1 := only_set (only_refl w' (some bo)) (p := ⟨bo, 0, none⟩) (.inl rfl) v'
 have hcells : Lib.strCells xs ++ Lib.strCells s = Lib.strCells (xs ++ s) := by simp [Lib.strCells]
 refine ⟨⟨o1.set_ 0 v', ?_, h.g, q0v low1 h.g k1⟩, ?_, ?_⟩
 ·rw [← hcells, ByteArray.size_append]
  exact own_far ho k1 m1
 ·rw [World.size_setCell]; exact hg.size
 ·intro k hk h1 h2
  exact (Below.heap_setCell w' ⟨bo, 0, none⟩ v' k h1).trans (hg.block k hk h2)
end
theorem put_small (p : List UInt8) (h : p.length ≤ 100000) : (PFrame.put p).1.length ≤ 200000 := by
 unfold PFrame.put
 split
 ·simp
 ·rename_i h2
  have := field_small p (by omega)
  rw [List.length_append, PFrame.seal_length]
  omega
def addErr (xs p : List UInt8) : Nat := if (PFrame.put p).2 = 0 ∧ 262144 < (xs ++ (PFrame.put p).1).length then 3 else (PFrame.put p).2
set_option maxRecDepth 100000 in
set_option maxHeartbeats 2000000 in
theorem add_any (w0 w : World) (bo : Nat) (v : Value) (xs : ByteArray) (h : Out w0 w bo v xs) (p : ByteArray) (hp : p.size ≤ 100000) (hx : xs.size ≤ 1000000) :
  Calls Try.prog 32 #[.string p, .pointer (some ⟨bo, 0, none⟩)] w fun e w' => e = .returned (.int .i64 (addErr (L xs) (L p) : Nat)) ∧ ∃ v', Out w0 w' bo v' (xs ++ B (PFrame.put (L p)).1) ∧ Kept w w' bo v := by
 have HP := Lib.hid (put_any p (by omega))
 have HO := Lib.hid h
 clear h
 have hfs : (PFrame.put (L p)).1.length ≤ 200000 := put_small (L p) (by rw [q0i]; exact hp)
 obtain ⟨E, hE⟩ : ∃ E, addErr (L xs) (L p) = E := ⟨_, rfl⟩
 rw [hE]
 unfold addErr at hE
 rw [show (L xs ++ (PFrame.put (L p)).1).length = xs.size + (B (PFrame.put (L p)).1).size by have h1 := q0i xs; have h2 := q0o (PFrame.put (L p)).1; rw [List.length_append]; omega] at hE
 rw [← q0o] at hfs
 generalize B (PFrame.put (L p)).1 = F at hE hfs HP ⊢
 generalize (PFrame.put (L p)).2 = er at hE HP ⊢
 go_enter Try.func32, Try.ntmps32
 go_wp2_with fail
 refine (HP.out _).mono ?_
 rintro e w1 ⟨rfl, hb1⟩
 have hO1 := HO.out.below hb1
 have co := (hO1.out.cell 0).trans rfl
 have hlo := hO1.out.lt
 obtain ⟨i0, hi, hz0, hz1, hz2⟩ := info_parts infoU8
 have hml : maxLen = 9223372036854775807 := rfl
 have hK1 : ∀ {w3 : World}, Kept w1 w3 bo v → Kept w w3 bo v := fun h => ⟨Nat.le_trans hb1.size h.size, fun k hk h1 h2 => (h.block k (Nat.lt_of_lt_of_le hk hb1.size) h1 h2).trans (hb1.block k hk)⟩
 have hgo : ∀ {v' : Value} {w2 : World}, w2.ownsRow w0.heap.size 5 1 v' (xs.size + F.size) (Lib.strCells xs ++ Lib.strCells F) → w1.grownBy w2 v.ownBlock → ∃ A, (∃ c, v' = .slice A (xs.size + F.size) c) ∧ Blk w2 bo 55 #[v] ∧ Out w0 (w2.setCell ⟨bo, 0, none⟩ v') bo v' (xs ++ F) ∧ Kept w (w2.setCell ⟨bo, 0, none⟩ v') bo v := by
  intro v' w2 ho hg
  obtain ⟨g1, g2⟩ := hO1.put ho hg
  obtain ⟨A, c, rfl⟩ := Go.Proofs.YtaigmemmgjlhgaaW.PrintWords.own_slice ho
  exact ⟨A, ⟨c, rfl⟩, hO1.out.grown hg (fun e => q0y hO1.row hO1.out (by decide) e.symm), g1, hK1 g2⟩
 by_cases e0 : er = 0
 ·subst e0
  by_cases hbig : 262144 < xs.size + F.size
  ·have t1 : decide ((262144 : Int) < (xs.size : Int) + (F.size : Int)) = true := decide_eq_true (by omega)
   obtain rfl : 3 = E := by rw [← hE, if_pos ⟨rfl, hbig⟩]
   clear hE
   go_wp2_with (at_builtin; refine Lib.wpList_append_own_string w1 rfl (.tmp 11) (.tmp 12) 55 9 rfl w0.heap.size 5 i0 Try.underlying55 Try.underlying9 hi hz0 hz1 hz2 v xs.size (Lib.strCells xs) rfl hO1.row F rfl (by omega) (by omega) hO1.low.size ?_; intro v' w2 hown hgr _; obtain ⟨A, ⟨c, rfl⟩, hbk, hfin, hkp⟩ := hgo hown hgr; have cb := (hbk.cell 0).trans rfl; have fb := hbk.frozen 0; have lb := hbk.lt)
   go_ret
   exact ⟨rfl, _, hfin, hkp⟩
  ·have t1 : decide ((262144 : Int) < (xs.size : Int) + (F.size : Int)) = false := decide_eq_false (by omega)
   obtain rfl : 0 = E := by rw [← hE, if_neg (fun h => hbig h.2)]
   clear hE
   go_wp2_with (at_builtin; refine Lib.wpList_append_own_string w1 rfl (.tmp 11) (.tmp 12) 55 9 rfl w0.heap.size 5 i0 Try.underlying55 Try.underlying9 hi hz0 hz1 hz2 v xs.size (Lib.strCells xs) rfl hO1.row F rfl (by omega) (by omega) hO1.low.size ?_; intro v' w2 hown hgr _; obtain ⟨A, ⟨c, rfl⟩, hbk, hfin, hkp⟩ := hgo hown hgr; have cb := (hbk.cell 0).trans rfl; have fb := hbk.frozen 0; have lb := hbk.lt)
   go_ret
   exact ⟨rfl, _, hfin, hkp⟩
 ·have t1 : ((er : Int) == 0) = false := by simp [e0]
  obtain rfl : er = E := by rw [← hE, if_neg (fun h => e0 h.1)]
  clear hE
  go_wp2_with (at_builtin; refine Lib.wpList_append_own_string w1 rfl (.tmp 11) (.tmp 12) 55 9 rfl w0.heap.size 5 i0 Try.underlying55 Try.underlying9 hi hz0 hz1 hz2 v xs.size (Lib.strCells xs) rfl hO1.row F rfl (by omega) (by omega) hO1.low.size ?_; intro v' w2 hown hgr _; obtain ⟨A, ⟨c, rfl⟩, hbk, hfin, hkp⟩ := hgo hown hgr; have cb := (hbk.cell 0).trans rfl; have fb := hbk.frozen 0; have lb := hbk.lt)
  go_ret
  exact ⟨rfl, _, hfin, hkp⟩
end Go.Proofs.Ytaigmemmgjlhgaa.Tab
