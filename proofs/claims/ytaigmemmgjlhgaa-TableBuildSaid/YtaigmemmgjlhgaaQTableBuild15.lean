/- Texts of this claim, joined by a program of this session (wip/pack.py): Print2, RCode, RField, Print19, RSumO, Print7, Print3, BlockC, Print4, Print5, Print6. -/
import Derived.Test.YtaigmemmgjlhgaaQTableBuild3
import Derived.Test.YtaigmemmgjlhgaaQTableBuild4
import Derived.Test.YtaigmemmgjlhgaaQTableBuild6
import Derived.Test.YtaigmemmgjlhgaaQTableBuild8
import Derived.Test.YtaigmemmgjlhgaaQTableBuild9
import Derived.Test.YtaigmemmgjlhgaaQTableBuild12
import Derived.Test.YtaigmemmgjlhgaaQTableBuild14
import Derived.Test.YtaigmemmgjlhgaaQTableBuild16
theorem qa15 {α : Type _} (l : List α) (i : Nat) (x : α) : l.toArray.setIfInBounds i x = (l.set i x).toArray := by simp
theorem qb15 {α : Type _} (l : List α) (x y : α) : (x :: l).set 0 y = y :: l := rfl
theorem qc15 {α : Type _} (l : List α) (n : Nat) (x y : α) : (x :: l).set (n + 1) y = x :: l.set n y := rfl
-- Print2
namespace Go.Proofs.Ytaigmemmgjlhgaa.Print
open Go.RowKit Go.Proofs.YtaigmemmgjlhgaaW.PrintWords Go.Proofs.YtaigmemmgjlhgaaW.PrintLast Go.Proofs.YtaigmemmgjlhgaaW.PrintMore
attribute [local go_sem] q1d q1b q1t q1s q19 q17 q1c q1a
set_option linter.unusedVariables false
set_option linter.unusedSimpArgs false
def code_PutUint.l0 : Nat → Int → List Int → Option (ByteArray)
 | 0, _, _ => none
 | k + 1, x0, x3 => if x0 > 127 then (if x3.length < 140737488355328 then (code_PutUint.l0 k (x0 / 128) (x3 ++ [Go.bits .or .u8 ((x0) % 256) 128])) else (none)) else (if x3.length < 140737488355328 then (some (strOfNums (x3 ++ [(x0) % 256]))) else (none))
def code_PutUint.f (k : Nat) (a0 : Int) : Option (ByteArray) := code_PutUint.l0 k a0 ([] : List Int)
theorem code_PutUint.mono_l : ∀ k, (∀ y0 y1, LeO (code_PutUint.l0 k y0 y1) (code_PutUint.l0 (k + 1) y0 y1))
 | 0 => fun _ _ r h => by simp [code_PutUint.l0] at h
 | k + 1 => by
  have ih0 := code_PutUint.mono_l k
  ·intro y0 y1
   unfold code_PutUint.l0
   repeat' first
   | (with_reducible exact ih0 _ _)
   | (with_reducible exact LeO.refl _)
   | (with_reducible exact LeO.none _)
   | (with_reducible refine LeO.ite ?_ ?_)
   | (with_reducible refine LeO.bind ?_ (fun _ => ?_))
   | exact ih0 _ _
   | exact LeO.none _
   | refine LeO.ite ?_ ?_
   | refine LeO.bind ?_ (fun _ => ?_)
theorem code_PutUint.mono : ∀ a0 k, LeO (code_PutUint.f k a0) (code_PutUint.f (k + 1) a0) := by
 intro a0 k
 have ih0 := code_PutUint.mono_l k
 unfold code_PutUint.f
 repeat' first
   | (with_reducible exact ih0 _ _)
   | (with_reducible exact LeO.refl _)
   | (with_reducible exact LeO.none _)
   | (with_reducible refine LeO.ite ?_ ?_)
   | (with_reducible refine LeO.bind ?_ (fun _ => ?_))
   | exact ih0 _ _
   | exact LeO.none _
   | refine LeO.ite ?_ ?_
   | refine LeO.bind ?_ (fun _ => ?_)
set_option maxHeartbeats 8000000 in
set_option maxRecDepth 100000 in
theorem code_PutUint.calls (k : Nat) (a0 : Int) (r : ByteArray) (w : World) (h : code_PutUint.f k a0 = some r) :
  Calls Try.prog 36 #[.int .u64 a0] w fun e w' => e = .returned (.string r) ∧ Below w.heap.size w w' := by
 have HB := q04.mk (Below.refl w.heap.size w)
 have H : (code_PutUint.l0 k a0 ([] : List Int)) = some r := h
 clear h
 have H' := q04.mk H
 clear H
 go_enter Try.func36, Try.ntmps36
 go_wp2
 go_loopg [0, 3] k (fun kq v0 v3 w' => ∃ (x0_1 : Int) (x3_1 : List Int), v0 = .int .u64 x0_1 ∧ q04 (code_PutUint.l0 kq x0_1 x3_1 = some r) ∧ q04 (kq ≤ k) ∧ q04 (Kd.R (Kd.int .u8) 5 w' w.heap.size (fun _ => True) v3 x3_1) ∧ q04 (Below w.heap.size w w'))
 case atStart => exact ⟨(a0), (([] : List Int)), (by first | rfl | (simp; done) | (simp [*]; done)), H', ⟨Nat.le_refl _⟩, ⟨by first | exact Kd.R_nil _ _ _ _ _ | exact Kd.N_nil _ _ _ _ _ | exact Kd.V_nil _ _ _ _ _ | exact Kd.Q_nil _ _ _ _ _ | exact Kd.S_nil _ _ _ _ _⟩, ⟨by repeat (first | (with_reducible first | exact HB.out | apply q02 | apply q00 | apply q01) | exact HB.out)⟩⟩
 case round =>
  clear H'
  obtain ⟨x0_1, x3_1, rfl, HA, HK1, HO_3, HB⟩ := hrel
  cases gk with
  | zero => exact absurd HA.out (by simp [code_PutUint.l0])
  | succ k1 =>
   have H := HA.out
   clear HA
   simp only [code_PutUint.l0] at H
   by_cases c2 : x0_1 > 127
   ·rw [if_pos c2] at H
    have c2b0 : decide (127 < x0_1) = true := decide_eq_true c2
    clear c2
    by_cases c3 : x3_1.length < 140737488355328
    ·rw [if_pos c3] at H
     have LMc3 := q04.mk c3
     clear c3
     obtain ⟨y101, hy101⟩ : ∃ y_ : List Int, y_ = (x3_1 ++ [Go.bits .or .u8 ((x0_1) % 256) 128]) := ⟨_, rfl⟩
     replace H : (code_PutUint.l0 k1 (x0_1 / 128) y101) = some r := by first | (rw [hy101]; with_reducible exact H) | (have H2_ := (Option.bind_some _ _).symm.trans H; rw [hy101]; with_reducible exact H2_) | (have H2_ := (Option.bind_some _ _).symm.trans H; with_reducible exact H2_) | with_reducible exact H | (rw [hy101]; exact H) | exact H
     have Ny101 := q04.mk hy101
     clear hy101
     have H' := q04.mk H
     clear H
     go_wp2_with (first | ((with_reducible refine q1k (b := .append) (xs := #[.tmp 8, .tmp 12]) rfl ?_); at_builtin; refine Kd.R_append (Kd.int .u8) (w0 := w) w.heap.size rfl (.tmp 8) (.tmp 12) 55 5 (.int .u8 0) 1 rfl Try.underlying55 info5 rfl (by decide) (by omega) u3 x3_1 (Go.bits .or .u8 ((x0_1) % 256) 128) [.int .u8 (Go.bits .or .u8 ((x0_1) % 256) 128)] (fun _ => True) (fun _ => False) rfl rfl ?aP (fun _ hk => hk.elim) ?aF ?aO ?aB ?aS ?aL ?_; (case aP => exact rfl); (case aB => exact (by repeat (first | (with_reducible first | exact HB.out | apply q02 | apply q00 | apply q01) | exact HB.out))); (case aF => exact (fun _ _ => trivial)); (case aO => exact (by (with_reducible repeat (first | apply Kd.R_alloc | apply Kd.R_drewN | apply Kd.R_drew)); exact HO_3.out)); (case aS => exact (q0e (by repeat (first | (with_reducible first | exact HB.out | apply q02 | apply q00 | apply q01) | exact HB.out)))); (case aL => have := LMc3.out; omega); intro v102 w4 ho hb hg hat; rw [← Ny101.out] at ho; have n0_ := q04.mk (hb); have n1_ := q04.mk (ho); clear HB; clear HO_3; have HB := n0_; have HO103 := n1_; clear n0_ n1_; clear ho hb hg hat))
     go_roundg k1
     case measure => have := HK1.out; omega
     case rel => exact ⟨(x0_1 / 128), (y101), (by first | rfl | (simp; done) | (simp [*]; done)), H', ⟨by have := HK1.out; omega⟩, ⟨by (with_reducible repeat (first | apply Kd.R_alloc | apply Kd.R_drewN | apply Kd.R_drew)); exact HO103.out⟩, ⟨by repeat (first | (with_reducible first | exact HB.out | apply q02 | apply q00 | apply q01) | exact HB.out)⟩⟩
    ·rw [if_neg c3] at H
     exact absurd H (by simp)
   ·rw [if_neg c2] at H
    have c2b0 : decide (127 < x0_1) = false := decide_eq_false c2
    clear c2
    by_cases c5 : x3_1.length < 140737488355328
    ·rw [if_pos c5] at H
     have LMc5 := q04.mk c5
     clear c5
     obtain ⟨y104, hy104⟩ : ∃ y_ : List Int, y_ = (x3_1 ++ [(x0_1) % 256]) := ⟨_, rfl⟩
     replace H : (some (strOfNums y104)) = some r := by first | (rw [hy104]; with_reducible exact H) | (have H2_ := (Option.bind_some _ _).symm.trans H; rw [hy104]; with_reducible exact H2_) | (have H2_ := (Option.bind_some _ _).symm.trans H; with_reducible exact H2_) | with_reducible exact H | (rw [hy104]; exact H) | exact H
     have Ny104 := q04.mk hy104
     clear hy104
     obtain rfl := Option.some.inj H
     go_wp2_with (first | ((with_reducible refine q1k (b := .append) (xs := #[.tmp 14, .tmp 17]) rfl ?_); at_builtin; refine Kd.R_append (Kd.int .u8) (w0 := w) w.heap.size rfl (.tmp 14) (.tmp 17) 55 5 (.int .u8 0) 1 rfl Try.underlying55 info5 rfl (by decide) (by omega) u3 x3_1 ((x0_1) % 256) [.int .u8 ((x0_1) % 256)] (fun _ => True) (fun _ => False) rfl rfl ?aP (fun _ hk => hk.elim) ?aF ?aO ?aB ?aS ?aL ?_; (case aP => exact rfl); (case aB => exact (by repeat (first | (with_reducible first | exact HB.out | apply q02 | apply q00 | apply q01) | exact HB.out))); (case aF => exact (fun _ _ => trivial)); (case aO => exact (by (with_reducible repeat (first | apply Kd.R_alloc | apply Kd.R_drewN | apply Kd.R_drew)); exact HO_3.out)); (case aS => exact (q0e (by repeat (first | (with_reducible first | exact HB.out | apply q02 | apply q00 | apply q01) | exact HB.out)))); (case aL => have := LMc5.out; omega); intro v105 w6 ho hb hg hat; rw [← Ny104.out] at ho; have n0_ := q04.mk (hb); have n1_ := q04.mk (ho); clear HB; clear HO_3; have HB := n0_; have HO106 := n1_; clear n0_ n1_; clear ho hb hg hat; have hcv7 := q14 (P := Try.prog) Try.underlying55 Try.underlying5 Try.underlying9 (Kd.own_of_R HO106.out)))
     go_ret
     exact ⟨by first | rfl | (simp [q0c, q0b] <;> rfl) | (simp [*, q0c, q0b] <;> rfl), by repeat (first | (with_reducible first | exact HB.out | apply q02 | apply q00 | apply q01) | exact HB.out)⟩
    ·rw [if_neg c5] at H
     exact absurd H (by simp)
def code_PutField.f (k : Nat) (a0 : ByteArray) : Option (ByteArray) := (code_PutUint.f k (IntKind.u64.wrap ((a0.size : Int)))).bind fun t107 => (if t107.size + a0.size ≤ 9223372036854775807 then (some (t107 ++ a0)) else (none))
theorem code_PutField.mono : ∀ a0 k, LeO (code_PutField.f k a0) (code_PutField.f (k + 1) a0) := by
 intro a0 k
 unfold code_PutField.f
 repeat' first
   | (with_reducible exact code_PutUint.mono _ _)
   | (with_reducible exact LeO.refl _)
   | (with_reducible exact LeO.none _)
   | (with_reducible refine LeO.ite ?_ ?_)
   | (with_reducible refine LeO.bind ?_ (fun _ => ?_))
   | exact code_PutUint.mono _ _
   | exact LeO.none _
   | refine LeO.ite ?_ ?_
   | refine LeO.bind ?_ (fun _ => ?_)
set_option maxHeartbeats 8000000 in
set_option maxRecDepth 100000 in
theorem code_PutField.calls (k : Nat) (a0 : ByteArray) (r : ByteArray) (w : World) (h : code_PutField.f k a0 = some r) :
  Calls Try.prog 35 #[.string a0] w fun e w' => e = .returned (.string r) ∧ Below w.heap.size w w' := by
 have HB := q04.mk (Below.refl w.heap.size w)
 have H : ((code_PutUint.f k (IntKind.u64.wrap ((a0.size : Int)))).bind fun t107 => (if t107.size + a0.size ≤ 9223372036854775807 then (some (t107 ++ a0)) else (none))) = some r := h
 clear h
 replace H := Option.bind_eq_some_iff.mp H
 obtain ⟨t107, A20, H⟩ := H
 replace H : (if t107.size + a0.size ≤ 9223372036854775807 then (some (t107 ++ a0)) else (none)) = some r := H
 have A2 := q04.mk A20
 clear A20
 by_cases c3 : t107.size + a0.size ≤ 9223372036854775807
 ·rw [if_pos c3] at H
  have c3b0 := eq_true c3
  have c3b1 : decide (t107.size + a0.size ≤ 9223372036854775807) = true := decide_eq_true c3
  try have c3b2 : (9223372036854775807 < t107.size + a0.size) = False := eq_false (Nat.not_lt.2 c3)
  obtain rfl := Option.some.inj H
  have hw : IntKind.u64.wrap ((a0.size : Int)) = (a0.size : Int) := by simp only [IntKind.wrap, IntKind.bits, IntKind.signed, Bool.false_and, Bool.false_eq_true, if_false]; omega
  replace A2 := q04.mk (hw ▸ A2.out)
  go_enter Try.func35, Try.ntmps35
  go_wp2_with (first | ((with_reducible refine q0h (f := 36) rfl ?_); refine q0s (some 6) rfl rfl Try.func36 (by kernel_rfl) rfl #[.int .u64 ((a0.size : Int))] rfl (by (try simp only [List.map_toArray, List.map_cons, List.map_nil]); first | done | rfl | (simp only [List.length_drop, List.length_take]; rfl)) ?_; (with_reducible refine (code_PutUint.calls k ((a0.size : Int)) t107 _ A2.out).mono ?_); rintro e w4 ⟨rfl, hb⟩; refine ⟨_, rfl, ?_⟩; have n0_ := q04.mk (q0a (by repeat (first | (with_reducible first | exact HB.out | apply q02 | apply q00 | apply q01) | exact HB.out)) hb); clear HB; have HB := n0_; clear n0_; (try clear hb); (try clear hb2); (try clear hk); (try clear hi)))
  go_ret
  exact ⟨by first | rfl | (simp [q0c, q0b] <;> rfl) | (simp [*, q0c, q0b] <;> rfl), by repeat (first | (with_reducible first | exact HB.out | apply q02 | apply q00 | apply q01) | exact HB.out)⟩
 ·rw [if_neg c3] at H
  exact absurd H (by simp)
def freshetref02_PutUint.l0 : Nat → Int → ByteArray → Option (ByteArray)
 | 0, _, _ => none
 | k + 1, x0, x3 => if x0 ≥ 128 then ((some (([(((Int.tmod x0 128) % 256) + 128) % 256] : List Int) : List Int)).bind fun y108 => (if x3.size + (strOfNums y108).size ≤ 9223372036854775807 then (freshetref02_PutUint.l0 k (IntKind.u64.wrap (Int.tdiv x0 128)) (x3 ++ (strOfNums y108))) else (none))) else ((some (([(x0) % 256] : List Int) : List Int)).bind fun y111 => (if x3.size + (strOfNums y111).size ≤ 9223372036854775807 then (some (x3 ++ (strOfNums y111))) else (none)))
def freshetref02_PutUint.f (k : Nat) (a0 : Int) : Option (ByteArray) := freshetref02_PutUint.l0 k a0 (⟨#[]⟩ : ByteArray)
theorem freshetref02_PutUint.mono_l : ∀ k, (∀ y0 y1, LeO (freshetref02_PutUint.l0 k y0 y1) (freshetref02_PutUint.l0 (k + 1) y0 y1))
 | 0 => fun _ _ r h => by simp [freshetref02_PutUint.l0] at h
 | k + 1 => by
  have ih0 := freshetref02_PutUint.mono_l k
  ·intro y0 y1
   unfold freshetref02_PutUint.l0
   repeat' first
   | (with_reducible exact ih0 _ _)
   | (with_reducible exact LeO.refl _)
   | (with_reducible exact LeO.none _)
   | (with_reducible refine LeO.ite ?_ ?_)
   | (with_reducible refine LeO.bind ?_ (fun _ => ?_))
   | exact ih0 _ _
   | exact LeO.none _
   | refine LeO.ite ?_ ?_
   | refine LeO.bind ?_ (fun _ => ?_)
theorem freshetref02_PutUint.mono : ∀ a0 k, LeO (freshetref02_PutUint.f k a0) (freshetref02_PutUint.f (k + 1) a0) := by
 intro a0 k
 have ih0 := freshetref02_PutUint.mono_l k
 unfold freshetref02_PutUint.f
 repeat' first
   | (with_reducible exact ih0 _ _)
   | (with_reducible exact LeO.refl _)
   | (with_reducible exact LeO.none _)
   | (with_reducible refine LeO.ite ?_ ?_)
   | (with_reducible refine LeO.bind ?_ (fun _ => ?_))
   | exact ih0 _ _
   | exact LeO.none _
   | refine LeO.ite ?_ ?_
   | refine LeO.bind ?_ (fun _ => ?_)
set_option maxHeartbeats 8000000 in
set_option maxRecDepth 100000 in
theorem freshetref02_PutUint.calls (k : Nat) (a0 : Int) (r : ByteArray) (w : World) (h : freshetref02_PutUint.f k a0 = some r) :
  Calls Try.prog 48 #[.int .u64 a0] w fun e w' => e = .returned (.string r) ∧ Below w.heap.size w w' := by
 have HB := q04.mk (Below.refl w.heap.size w)
 have H : (freshetref02_PutUint.l0 k a0 (⟨#[]⟩ : ByteArray)) = some r := h
 clear h
 have H' := q04.mk H
 clear H
 go_enter Try.func48, Try.ntmps48
 go_wp2
 go_loopg [0, 3] k (fun kq v0 v3 w' => ∃ (x0_1 : Int) (x3_1 : ByteArray), v0 = .int .u64 x0_1 ∧ v3 = .string x3_1 ∧ q04 (freshetref02_PutUint.l0 kq x0_1 x3_1 = some r) ∧ q04 (kq ≤ k) ∧ q04 (Below w.heap.size w w'))
 case atStart => exact ⟨(a0), ((⟨#[]⟩ : ByteArray)), (by first | rfl | (simp; done) | (simp [*]; done)), (by first | rfl | (simp; done) | (simp [*]; done)), H', ⟨Nat.le_refl _⟩, ⟨by repeat (first | (with_reducible first | exact HB.out | apply q02 | apply q00 | apply q01) | exact HB.out)⟩⟩
 case round =>
  clear H'
  obtain ⟨x0_1, x3_1, rfl, rfl, HA, HK1, HB⟩ := hrel
  cases gk with
  | zero => exact absurd HA.out (by simp [freshetref02_PutUint.l0])
  | succ k1 =>
   have H := HA.out
   clear HA
   simp only [freshetref02_PutUint.l0] at H
   by_cases c2 : x0_1 ≥ 128
   ·rw [if_pos c2] at H
    have c2b0 : decide (128 ≤ x0_1) = true := decide_eq_true c2
    clear c2
    obtain ⟨y108, hy108⟩ : ∃ y_ : List Int, y_ = (([(((Int.tmod x0_1 128) % 256) + 128) % 256] : List Int)) := ⟨_, rfl⟩
    replace H : (if x3_1.size + (strOfNums y108).size ≤ 9223372036854775807 then (freshetref02_PutUint.l0 k1 (IntKind.u64.wrap (Int.tdiv x0_1 128)) (x3_1 ++ (strOfNums y108))) else (none)) = some r := by first | (rw [hy108]; with_reducible exact H) | (have H2_ := (Option.bind_some _ _).symm.trans H; rw [hy108]; with_reducible exact H2_) | (have H2_ := (Option.bind_some _ _).symm.trans H; with_reducible exact H2_) | with_reducible exact H | (rw [hy108]; exact H) | exact H
    have Ny108 := q04.mk hy108
    clear hy108
    by_cases c3 : x3_1.size + (strOfNums y108).size ≤ 9223372036854775807
    ·rw [if_pos c3] at H
     have c3b0 := eq_true c3
     have c3b1 : decide (x3_1.size + (strOfNums y108).size ≤ 9223372036854775807) = true := decide_eq_true c3
     try have c3b2 : (9223372036854775807 < x3_1.size + (strOfNums y108).size) = False := eq_false (Nat.not_lt.2 c3)
     have H' := q04.mk H
     clear H
     go_wp2_with (first | ((with_reducible refine q0q (N := 11) rfl ?_); refine Kd.R_lit (Kd.int .u8) _ 5 ?hg (N := 11) ?hd (xs := ([(((Int.tmod x0_1 128) % 256) + 128) % 256] : List Int)) (inner := [.int .u8 ((((Int.tmod x0_1 128) % 256) + 128) % 256)]) (ok := fun _ => True) (okp := fun _ => True) ?hr ?hp (fun _ hk => hk) trivial (Below.refl _ _) (Nat.le_refl _) (by simp) ?_; (case hd => rfl); (case hg => rfl); (case hr => first | (go_simp; done) | (go_simp; rfl)); (case hp => exact (Reps.one (show Kd.M (Kd.int .u8) _ _ _ ((((Int.tmod x0_1 128) % 256) + 128) % 256) [.int .u8 ((((Int.tmod x0_1 128) % 256) + 128) % 256)] from rfl) (Reps.none _ _))); intro v109 w4 ho5 hb hg_ hnew_; clear hg_ hnew_; (first | rw [← Ny108.out] at ho5 | (simp only [Int.reduceToNat] at ho5; rw [← Ny108.out] at ho5)); have n0_ := q04.mk (Kd.R_lower ho5 (q0e (by repeat (first | (with_reducible first | exact HB.out | apply q02 | apply q00 | apply q01) | exact HB.out)))); have n1_ := q04.mk (q0a (by repeat (first | (with_reducible first | exact HB.out | apply q02 | apply q00 | apply q01) | exact HB.out)) hb); clear HB; have HO110 := n0_; have HB := n1_; clear n0_ n1_; clear hb ho5; have hcv6 := q14 (P := Try.prog) Try.underlying55 Try.underlying5 Try.underlying9 (Kd.own_of_R HO110.out)))
     go_roundg k1
     case measure => have := HK1.out; omega
     case rel => exact ⟨(IntKind.u64.wrap (Int.tdiv x0_1 128)), (x3_1 ++ (strOfNums y108)), (by first | rfl | (simp; done) | (simp [*]; done)), (by first | rfl | (simp; done) | (simp [*]; done)), H', ⟨by have := HK1.out; omega⟩, ⟨by repeat (first | (with_reducible first | exact HB.out | apply q02 | apply q00 | apply q01) | exact HB.out)⟩⟩
    ·rw [if_neg c3] at H
     exact absurd H (by simp)
   ·rw [if_neg c2] at H
    have c2b0 : decide (128 ≤ x0_1) = false := decide_eq_false c2
    clear c2
    obtain ⟨y111, hy111⟩ : ∃ y_ : List Int, y_ = (([(x0_1) % 256] : List Int)) := ⟨_, rfl⟩
    replace H : (if x3_1.size + (strOfNums y111).size ≤ 9223372036854775807 then (some (x3_1 ++ (strOfNums y111))) else (none)) = some r := by first | (rw [hy111]; with_reducible exact H) | (have H2_ := (Option.bind_some _ _).symm.trans H; rw [hy111]; with_reducible exact H2_) | (have H2_ := (Option.bind_some _ _).symm.trans H; with_reducible exact H2_) | with_reducible exact H | (rw [hy111]; exact H) | exact H
    have Ny111 := q04.mk hy111
    clear hy111
    by_cases c7 : x3_1.size + (strOfNums y111).size ≤ 9223372036854775807
    ·rw [if_pos c7] at H
     have c7b0 := eq_true c7
     have c7b1 : decide (x3_1.size + (strOfNums y111).size ≤ 9223372036854775807) = true := decide_eq_true c7
     try have c7b2 : (9223372036854775807 < x3_1.size + (strOfNums y111).size) = False := eq_false (Nat.not_lt.2 c7)
     obtain rfl := Option.some.inj H
     go_wp2_with (first | ((with_reducible refine q0q (N := 19) rfl ?_); refine Kd.R_lit (Kd.int .u8) _ 5 ?hg (N := 19) ?hd (xs := ([(x0_1) % 256] : List Int)) (inner := [.int .u8 ((x0_1) % 256)]) (ok := fun _ => True) (okp := fun _ => True) ?hr ?hp (fun _ hk => hk) trivial (Below.refl _ _) (Nat.le_refl _) (by simp) ?_; (case hd => rfl); (case hg => rfl); (case hr => first | (go_simp; done) | (go_simp; rfl)); (case hp => exact (Reps.one (show Kd.M (Kd.int .u8) _ _ _ ((x0_1) % 256) [.int .u8 ((x0_1) % 256)] from rfl) (Reps.none _ _))); intro v112 w8 ho9 hb hg_ hnew_; clear hg_ hnew_; (first | rw [← Ny111.out] at ho9 | (simp only [Int.reduceToNat] at ho9; rw [← Ny111.out] at ho9)); have n0_ := q04.mk (Kd.R_lower ho9 (q0e (by repeat (first | (with_reducible first | exact HB.out | apply q02 | apply q00 | apply q01) | exact HB.out)))); have n1_ := q04.mk (q0a (by repeat (first | (with_reducible first | exact HB.out | apply q02 | apply q00 | apply q01) | exact HB.out)) hb); clear HB; have HO113 := n0_; have HB := n1_; clear n0_ n1_; clear hb ho9; have hcv10 := q14 (P := Try.prog) Try.underlying55 Try.underlying5 Try.underlying9 (Kd.own_of_R HO113.out)))
     go_ret
     exact ⟨by first | rfl | (simp [q0c, q0b] <;> rfl) | (simp [*, q0c, q0b] <;> rfl), by repeat (first | (with_reducible first | exact HB.out | apply q02 | apply q00 | apply q01) | exact HB.out)⟩
    ·rw [if_neg c7] at H
     exact absurd H (by simp)
def freshetref02_PutField.f (k : Nat) (a0 : ByteArray) : Option (ByteArray) := (freshetref02_PutUint.f k (IntKind.u64.wrap ((a0.size : Int)))).bind fun t114 => (if t114.size + a0.size ≤ 9223372036854775807 then (some (t114 ++ a0)) else (none))
theorem freshetref02_PutField.mono : ∀ a0 k, LeO (freshetref02_PutField.f k a0) (freshetref02_PutField.f (k + 1) a0) := by
 intro a0 k
 unfold freshetref02_PutField.f
 repeat' first
   | (with_reducible exact freshetref02_PutUint.mono _ _)
   | (with_reducible exact LeO.refl _)
   | (with_reducible exact LeO.none _)
   | (with_reducible refine LeO.ite ?_ ?_)
   | (with_reducible refine LeO.bind ?_ (fun _ => ?_))
   | exact freshetref02_PutUint.mono _ _
   | exact LeO.none _
   | refine LeO.ite ?_ ?_
   | refine LeO.bind ?_ (fun _ => ?_)
set_option maxHeartbeats 8000000 in
set_option maxRecDepth 100000 in
theorem freshetref02_PutField.calls (k : Nat) (a0 : ByteArray) (r : ByteArray) (w : World) (h : freshetref02_PutField.f k a0 = some r) :
  Calls Try.prog 47 #[.string a0] w fun e w' => e = .returned (.string r) ∧ Below w.heap.size w w' := by
 have HB := q04.mk (Below.refl w.heap.size w)
 have H : ((freshetref02_PutUint.f k (IntKind.u64.wrap ((a0.size : Int)))).bind fun t114 => (if t114.size + a0.size ≤ 9223372036854775807 then (some (t114 ++ a0)) else (none))) = some r := h
 clear h
 replace H := Option.bind_eq_some_iff.mp H
 obtain ⟨t114, A20, H⟩ := H
 replace H : (if t114.size + a0.size ≤ 9223372036854775807 then (some (t114 ++ a0)) else (none)) = some r := H
 have A2 := q04.mk A20
 clear A20
 by_cases c3 : t114.size + a0.size ≤ 9223372036854775807
 ·rw [if_pos c3] at H
  have c3b0 := eq_true c3
  have c3b1 : decide (t114.size + a0.size ≤ 9223372036854775807) = true := decide_eq_true c3
  try have c3b2 : (9223372036854775807 < t114.size + a0.size) = False := eq_false (Nat.not_lt.2 c3)
  obtain rfl := Option.some.inj H
  have hw : IntKind.u64.wrap ((a0.size : Int)) = (a0.size : Int) := by simp only [IntKind.wrap, IntKind.bits, IntKind.signed, Bool.false_and, Bool.false_eq_true, if_false]; omega
  replace A2 := q04.mk (hw ▸ A2.out)
  go_enter Try.func47, Try.ntmps47
  go_wp2_with (first | ((with_reducible refine q0h (f := 48) rfl ?_); refine q0s (some 6) rfl rfl Try.func48 (by kernel_rfl) rfl #[.int .u64 ((a0.size : Int))] rfl (by (try simp only [List.map_toArray, List.map_cons, List.map_nil]); first | done | rfl | (simp only [List.length_drop, List.length_take]; rfl)) ?_; (with_reducible refine (freshetref02_PutUint.calls k ((a0.size : Int)) t114 _ A2.out).mono ?_); rintro e w4 ⟨rfl, hb⟩; refine ⟨_, rfl, ?_⟩; have n0_ := q04.mk (q0a (by repeat (first | (with_reducible first | exact HB.out | apply q02 | apply q00 | apply q01) | exact HB.out)) hb); clear HB; have HB := n0_; clear n0_; (try clear hb); (try clear hb2); (try clear hk); (try clear hi)))
  go_ret
  exact ⟨by first | rfl | (simp [q0c, q0b] <;> rfl) | (simp [*, q0c, q0b] <;> rfl), by repeat (first | (with_reducible first | exact HB.out | apply q02 | apply q00 | apply q01) | exact HB.out)⟩
 ·rw [if_neg c3] at H
  exact absurd H (by simp)
def code_Field.j0 : Nat → ByteArray → Int → Int → Bool → Option (ByteArray × Int × Int)
 | 0, _, _, _, _ => none
 | k + 1, x0, x7, x8, x19 => if x19 = true then (some ((⟨#[]⟩ : ByteArray), 0, 3)) else (if x7 > (IntKind.u64.wrap (wrap64 ((x0.size : Int) - x8))) then (some ((⟨#[]⟩ : ByteArray), 0, 6)) else (if 0 ≤ x8 then (if x8 ≤ (wrap64 (x8 + (wrap64 (x7)))) then (if (wrap64 (x8 + (wrap64 (x7)))) ≤ (x0.size : Int) then (some (x0.extract (x8 : Int).toNat ((wrap64 (x8 + (wrap64 (x7)))) : Int).toNat, wrap64 (x8 + (wrap64 (x7))), 0)) else (none)) else (none)) else (none)))
def code_Field.f (k : Nat) (a0 : ByteArray) (a1 : Int) : Option (ByteArray × Int × Int) := (code_Uint.f a0).bind fun bt115 => (if bt115.2.2 = 0 then (if a1 < 0 then (code_Field.j0 k a0 bt115.1 bt115.2.1 true) else (code_Field.j0 k a0 bt115.1 bt115.2.1 (decide (bt115.1 > (IntKind.u64.wrap (a1)))))) else (some ((⟨#[]⟩ : ByteArray), 0, bt115.2.2)))
theorem code_Field.mono_l : ∀ k, (∀ y0 y1 y2 y3, LeO (code_Field.j0 k y0 y1 y2 y3) (code_Field.j0 (k + 1) y0 y1 y2 y3))
 | 0 => fun _ _ _ _ r h => by simp [code_Field.j0] at h
 | k + 1 => by
  have ih0 := code_Field.mono_l k
  ·intro y0 y1 y2 y3
   unfold code_Field.j0
   repeat' first
   | (with_reducible exact ih0 _ _ _ _)
   | (with_reducible exact LeO.refl _)
   | (with_reducible exact LeO.none _)
   | (with_reducible refine LeO.ite ?_ ?_)
   | (with_reducible refine LeO.bind ?_ (fun _ => ?_))
   | exact ih0 _ _ _ _
   | exact LeO.none _
   | refine LeO.ite ?_ ?_
   | refine LeO.bind ?_ (fun _ => ?_)
theorem code_Field.mono : ∀ a0 a1 k, LeO (code_Field.f k a0 a1) (code_Field.f (k + 1) a0 a1) := by
 intro a0 a1 k
 have ih0 := code_Field.mono_l k
 unfold code_Field.f
 repeat' first
   | (with_reducible exact ih0 _ _ _ _)
   | (with_reducible exact LeO.refl _)
   | (with_reducible exact LeO.none _)
   | (with_reducible refine LeO.ite ?_ ?_)
   | (with_reducible refine LeO.bind ?_ (fun _ => ?_))
   | exact ih0 _ _ _ _
   | exact LeO.none _
   | refine LeO.ite ?_ ?_
   | refine LeO.bind ?_ (fun _ => ?_)
set_option maxHeartbeats 8000000 in
set_option maxRecDepth 100000 in
theorem code_Field.calls (k : Nat) (a0 : ByteArray) (a1 : Int) (r1 : ByteArray) (r2 : Int) (r3 : Int) (w : World) (h : code_Field.f k a0 a1 = some (r1, r2, r3)) :
  Calls Try.prog 67 #[.string a0, .int .i64 a1] w fun e w' => e = .returned (.tuple #[.string r1, .int .i64 r2, .int .i64 r3]) ∧ Below w.heap.size w w' := by
 have HB := q04.mk (Below.refl w.heap.size w)
 have H : ((code_Uint.f a0).bind fun bt115 => (if bt115.2.2 = 0 then (if a1 < 0 then (code_Field.j0 k a0 bt115.1 bt115.2.1 true) else (code_Field.j0 k a0 bt115.1 bt115.2.1 (decide (bt115.1 > (IntKind.u64.wrap (a1)))))) else (some ((⟨#[]⟩ : ByteArray), 0, bt115.2.2)))) = some (r1, r2, r3) := h
 clear h
 replace H := Option.bind_eq_some_iff.mp H
 obtain ⟨⟨t115, t116, t117⟩, A30, H⟩ := H
 replace H : (if t117 = 0 then (if a1 < 0 then (code_Field.j0 k a0 t115 t116 true) else (code_Field.j0 k a0 t115 t116 (decide (t115 > (IntKind.u64.wrap (a1)))))) else (some ((⟨#[]⟩ : ByteArray), 0, t117))) = some (r1, r2, r3) := H
 have A3 := q04.mk A30
 clear A30
 by_cases c4 : t117 = 0
 ·rw [if_pos c4] at H
  have c4b0 : (t117 == 0) = true := beq_iff_eq.mpr c4
  have c4b1 : (t117 != 0) = false := bne_eq_false_iff_eq.mpr c4
  clear c4
  have HC5 := q04.mk H
  clear H
  go_enter Try.func67, Try.ntmps67
  go_upto_region 4 with (first | ((with_reducible refine q0h (f := 68) rfl ?_); refine q0s (some 11) rfl rfl Try.func68 (by kernel_rfl) rfl #[.string a0] rfl (by (try simp only [List.map_toArray, List.map_cons, List.map_nil]); first | done | rfl | (simp only [List.length_drop, List.length_take]; rfl)) ?_; (with_reducible refine (code_Uint.calls a0 t115 t116 t117 _ A3.out).mono ?_); rintro e w6 ⟨rfl, hb⟩; refine ⟨_, rfl, ?_⟩; have n0_ := q04.mk (q0a (by repeat (first | (with_reducible first | exact HB.out | apply q02 | apply q00 | apply q01) | exact HB.out)) hb); clear HB; have HB := n0_; clear n0_; (try clear hb); (try clear hb2); (try clear hk); (try clear hi)))
  (try simp only [Act.put, qa15, qb15, qc15])
  go_cut [19] (fun v19 wc => ∃ (kq : Nat) (x19_4 : Bool), v19 = .bool x19_4 ∧ q04 (code_Field.j0 kq a0 t115 t116 x19_4 = some (r1, r2, r3)) ∧ q04 (kq ≤ k) ∧ q04 (Below w.heap.size w wc))
  case first =>
   have H := HC5.out
   clear HC5
   by_cases c7 : a1 < 0
   ·rw [if_pos c7] at H
    have c7b0 : decide (a1 < 0) = true := decide_eq_true c7
    clear c7
    (first | rw [c7b0] | (simp only [i64_w, i32_w]; rw [c7b0]) | skip)
    have H' := q04.mk H
    clear H
    go_wp2
    go_meet
    case rel => exact ⟨_, (true), (by first | rfl | (simp; done) | (simp [*]; done)), H', ⟨by first | omega | exact Nat.le_refl _⟩, ⟨by repeat (first | (with_reducible first | exact HB.out | apply q02 | apply q00 | apply q01) | exact HB.out)⟩⟩
   ·rw [if_neg c7] at H
    have c7b0 : decide (a1 < 0) = false := decide_eq_false c7
    clear c7
    (first | rw [c7b0] | (simp only [i64_w, i32_w]; rw [c7b0]) | skip)
    have H' := q04.mk H
    clear H
    go_wp2
    go_meet
    case rel => exact ⟨_, (decide (t115 > (IntKind.u64.wrap (a1)))), (by first | rfl | (simp; done) | (simp [*]; done)), H', ⟨by first | omega | exact Nat.le_refl _⟩, ⟨by repeat (first | (with_reducible first | exact HB.out | apply q02 | apply q00 | apply q01) | exact HB.out)⟩⟩
  case rest =>
   clear HC5
   try clear p2
   try clear c4
   try clear c4b0
   try clear c4b1
   try clear c6
   try clear c7
   try clear c7b0
   obtain ⟨kq, x19_4, rfl, HA, HJ4, HB⟩ := hcut
   cases kq with
   | zero => exact absurd HA.out (by simp [code_Field.j0])
   | succ kj4 =>
    have H := HA.out
    clear HA
    simp only [code_Field.j0] at H
    by_cases c8 : x19_4 = true
    ·subst c8
     have H1 : (some ((⟨#[]⟩ : ByteArray), 0, 3)) = some (r1, r2, r3) := by rw [if_pos rfl] at H; exact H
     clear H
     have H := H1
     clear H1
     simp only [Option.some.injEq, Prod.mk.injEq] at H
     obtain ⟨rfl, rfl, rfl⟩ := H
     go_wp2
     go_ret3
     exact ⟨by first | rfl | (simp [q0c, q0b] <;> rfl) | (simp [*, q0c, q0b] <;> rfl), by repeat (first | (with_reducible first | exact HB.out | apply q02 | apply q00 | apply q01) | exact HB.out)⟩
    ·replace c8 := Bool.eq_false_iff.mpr c8
     subst c8
     have H1 : (if t115 > (IntKind.u64.wrap (wrap64 ((a0.size : Int) - t116))) then (some ((⟨#[]⟩ : ByteArray), 0, 6)) else (if 0 ≤ t116 then (if t116 ≤ (wrap64 (t116 + (wrap64 (t115)))) then (if (wrap64 (t116 + (wrap64 (t115)))) ≤ (a0.size : Int) then (some (a0.extract (t116 : Int).toNat ((wrap64 (t116 + (wrap64 (t115)))) : Int).toNat, wrap64 (t116 + (wrap64 (t115))), 0)) else (none)) else (none)) else (none))) = some (r1, r2, r3) := by rw [if_neg (show ¬ (false = true) by decide)] at H; exact H
     clear H
     have H := H1
     clear H1
     by_cases c9 : t115 > (IntKind.u64.wrap (wrap64 ((a0.size : Int) - t116)))
     ·rw [if_pos c9] at H
      have c9b0 : decide ((IntKind.u64.wrap (wrap64 ((a0.size : Int) - t116))) < t115) = true := decide_eq_true c9
      clear c9
      simp only [Option.some.injEq, Prod.mk.injEq] at H
      obtain ⟨rfl, rfl, rfl⟩ := H
      go_wp2
      go_ret3
      exact ⟨by first | rfl | (simp [q0c, q0b] <;> rfl) | (simp [*, q0c, q0b] <;> rfl), by repeat (first | (with_reducible first | exact HB.out | apply q02 | apply q00 | apply q01) | exact HB.out)⟩
     ·rw [if_neg c9] at H
      have c9b0 : decide ((IntKind.u64.wrap (wrap64 ((a0.size : Int) - t116))) < t115) = false := decide_eq_false c9
      clear c9
      by_cases c10 : 0 ≤ t116
      ·rw [if_pos c10] at H
       have c10b0 := eq_true c10
       have c10b1 : decide (0 ≤ t116) = true := decide_eq_true c10
       clear c10
       by_cases c11 : t116 ≤ (wrap64 (t116 + (wrap64 (t115))))
       ·rw [if_pos c11] at H
        have c11b0 := eq_true c11
        have c11b1 : decide (t116 ≤ (wrap64 (t116 + (wrap64 (t115))))) = true := decide_eq_true c11
        by_cases c12 : (wrap64 (t116 + (wrap64 (t115)))) ≤ (a0.size : Int)
        ·rw [if_pos c12] at H
         have c12b0 := eq_true c12
         have c12b1 : decide ((wrap64 (t116 + (wrap64 (t115)))) ≤ (a0.size : Int)) = true := decide_eq_true c12
         simp only [Option.some.injEq, Prod.mk.injEq] at H
         obtain ⟨rfl, rfl, rfl⟩ := H
         go_wp2
         go_ret3
         exact ⟨by first | rfl | (simp [q0c, q0b] <;> rfl) | (simp [*, q0c, q0b] <;> rfl), by repeat (first | (with_reducible first | exact HB.out | apply q02 | apply q00 | apply q01) | exact HB.out)⟩
        ·rw [if_neg c12] at H
         exact absurd H (by simp)
       ·rw [if_neg c11] at H
        exact absurd H (by simp)
      ·rw [if_neg c10] at H
       exact absurd H (by simp)
 ·rw [if_neg c4] at H
  have c4b0 : (t117 == 0) = false := beq_eq_false_iff_ne.mpr c4
  have c4b1 : (t117 != 0) = true := bne_iff_ne.mpr c4
  simp only [Option.some.injEq, Prod.mk.injEq] at H
  obtain ⟨rfl, rfl, rfl⟩ := H
  go_enter Try.func67, Try.ntmps67
  go_wp2_with (first | ((with_reducible refine q0h (f := 68) rfl ?_); refine q0s (some 11) rfl rfl Try.func68 (by kernel_rfl) rfl #[.string a0] rfl (by (try simp only [List.map_toArray, List.map_cons, List.map_nil]); first | done | rfl | (simp only [List.length_drop, List.length_take]; rfl)) ?_; (with_reducible refine (code_Uint.calls a0 t115 t116 t117 _ A3.out).mono ?_); rintro e w13 ⟨rfl, hb⟩; refine ⟨_, rfl, ?_⟩; have n0_ := q04.mk (q0a (by repeat (first | (with_reducible first | exact HB.out | apply q02 | apply q00 | apply q01) | exact HB.out)) hb); clear HB; have HB := n0_; clear n0_; (try clear hb); (try clear hb2); (try clear hk); (try clear hi)))
  go_ret3
  exact ⟨by first | rfl | (simp [q0c, q0b] <;> rfl) | (simp [*, q0c, q0b] <;> rfl), by repeat (first | (with_reducible first | exact HB.out | apply q02 | apply q00 | apply q01) | exact HB.out)⟩
end Go.Proofs.Ytaigmemmgjlhgaa.Print
-- RCode
namespace Go.Proofs.Ytaigmemmgjlhgaa.Print
open Go.RowKit Txt Go.Proofs.YtaigmemmgjlhgaaW.PrintWords
theorem q0o {x : Int} (h0 : 0 ≤ x) (h1 : x < 18446744073709551616) : IntKind.u64.wrap x = x := by
 rw [IntKind.wrap_u64]; omega
theorem or_byte (n : Nat) : Go.bits .or .u8 ((n : Int) % 256) 128 = ((n % 128 + 128 : Nat) : Int) := by
 have h : ∀ m : Fin 256, Go.bits .or .u8 (m.val : Int) 128 = ((m.val % 128 + 128 : Nat) : Int) := by decide +kernel
 have := h ⟨n % 256, by omega⟩
 rw [show ((n : Int) % 256) = ((n % 256 : Nat) : Int) by omega, this]
 simp only
 congr 1
 omega
theorem L_nums_snoc (l : List Int) (v : Int) : L (strOfNums (l ++ [v])) = L (strOfNums l) ++ [UInt8.ofNat v.toNat] := by
 rw [L_nums, L_nums, List.map_append]; rfl
theorem code_putUint (j : Nat) : ∀ (n : Nat) (x : List Int), n < 128 ^ (j + 1) → x.length + j + 1 ≤ 140737488355328 → Ev (fun k => code_PutUint.l0 k (n : Int) x) (B (L (strOfNums x) ++ PCode.putUint n)) := by
 induction j with
 | zero =>
  intro n x h hx
  refine Ev.step (f := fun _ => some (strOfNums (x ++ [(n : Int) % 256]))) (fun k => ?_) ?_
  ·simp only [code_PutUint.l0]
   rw [if_neg (by omega), if_pos (by omega)]
  ·rw [PCode.putUint_small (by omega)]
   have : B (L (strOfNums x) ++ [UInt8.ofNat n]) = strOfNums (x ++ [(n : Int) % 256]) := by
    apply L_inj
    rw [L_nums_snoc, L_B]
    rw [show ((n : Int) % 256).toNat = n by omega]
   rw [this]
   exact Ev.now _
 | succ j ih =>
  intro n x h hx
  by_cases hn : n < 128
  ·refine Ev.step (f := fun _ => some (strOfNums (x ++ [(n : Int) % 256]))) (fun k => ?_) ?_
   ·simp only [code_PutUint.l0]
    rw [if_neg (by omega), if_pos (by omega)]
   ·rw [PCode.putUint_small (by omega)]
    have : B (L (strOfNums x) ++ [UInt8.ofNat n]) = strOfNums (x ++ [(n : Int) % 256]) := by
     apply L_inj
     rw [L_nums_snoc, L_B]
     rw [show ((n : Int) % 256).toNat = n by omega]
    rw [this]
    exact Ev.now _
  ·have hd : n / 128 < 128 ^ (j + 1) := by rw [Nat.div_lt_iff_lt_mul (by omega)]; rw [Nat.pow_succ] at h; exact h
   have e := ih (n / 128) (x ++ [Go.bits .or .u8 ((n : Int) % 256) 128]) hd (by simp only [List.length_append, List.length_cons, List.length_nil]; omega)
   rw [L_nums_snoc, or_byte, List.append_assoc, Int.toNat_natCast, List.singleton_append, ← PCode.putUint_big hn] at e
   refine Ev.step (fun k => ?_) e
   simp only [code_PutUint.l0]
   rw [if_pos (by omega), if_pos (by omega), or_byte]
   rfl
theorem code_put (n : Nat) (h : n < 18446744073709551616) : Ev (fun k => code_PutUint.f k (n : Int)) (B (PCode.putUint n)) :=
 code_putUint 9 n [] (by omega) (by simp)
theorem low_byte (n : Nat) : ((((Int.tmod (n : Int) 128) % 256) + 128) % 256) = ((n % 128 + 128 : Nat) : Int) := by
 rw [Int.tmod_eq_emod_of_nonneg (by omega)]; omega
theorem ref_putUint (j : Nat) : ∀ (n : Nat) (x : ByteArray), n < 128 ^ (j + 1) → n < 18446744073709551616 → x.size + j + 1 ≤ 9223372036854775807 → Ev (fun k => freshetref02_PutUint.l0 k (n : Int) x) (B (L x ++ PCode.putUint n)) := by
 induction j with
 | zero =>
  intro n x h _ hx
  refine Ev.step (f := fun _ => some (x ++ strOfNums [(n : Int) % 256])) (fun k => ?_) ?_
  ·simp only [freshetref02_PutUint.l0, Option.bind_some]
   rw [if_neg (by omega), if_pos (by rw [← q0g (strOfNums _), L_nums]; simp; omega)]
  ·rw [PCode.putUint_small (by omega)]
   have : B (L x ++ [UInt8.ofNat n]) = x ++ strOfNums [(n : Int) % 256] := by
    apply L_inj
    rw [q0t, L_B, L_nums]
    simp only [List.map_cons, List.map_nil]
    rw [show ((n : Int) % 256).toNat = n by omega]
   rw [this]
   exact Ev.now _
 | succ j ih =>
  intro n x h hN hx
  by_cases hn : n < 128
  ·refine Ev.step (f := fun _ => some (x ++ strOfNums [(n : Int) % 256])) (fun k => ?_) ?_
   ·simp only [freshetref02_PutUint.l0, Option.bind_some]
    rw [if_neg (by omega), if_pos (by rw [← q0g (strOfNums _), L_nums]; simp; omega)]
   ·rw [PCode.putUint_small (by omega)]
    have : B (L x ++ [UInt8.ofNat n]) = x ++ strOfNums [(n : Int) % 256] := by
     apply L_inj
     rw [q0t, L_B, L_nums]
     simp only [List.map_cons, List.map_nil]
     rw [show ((n : Int) % 256).toNat = n by omega]
    rw [this]
    exact Ev.now _
  ·have hd : n / 128 < 128 ^ (j + 1) := by rw [Nat.div_lt_iff_lt_mul (by omega)]; rw [Nat.pow_succ] at h; exact h
   have es : (strOfNums [((n % 128 + 128 : Nat) : Int)]).size = 1 := by rw [← q0g, L_nums]; rfl
   have e := ih (n / 128) (x ++ strOfNums [((n % 128 + 128 : Nat) : Int)]) hd (by omega) (by rw [ByteArray.size_append, es]; omega)
   rw [q0t, L_nums, List.append_assoc] at e
   simp only [List.map_cons, List.map_nil, Int.toNat_natCast, List.singleton_append] at e
   rw [← PCode.putUint_big hn] at e
   refine Ev.step (fun k => ?_) e
   simp only [freshetref02_PutUint.l0, Option.bind_some]
   rw [if_pos (by omega), low_byte, if_pos (by rw [es]; omega), Int.tdiv_eq_ediv_of_nonneg (by omega), q0o (by omega) (by omega)]
   rfl
theorem ref_put (n : Nat) (h : n < 18446744073709551616) : Ev (fun k => freshetref02_PutUint.f k (n : Int)) (B (PCode.putUint n)) :=
 ref_putUint 9 n ⟨#[]⟩ (by omega) h (by decide)
def low : List UInt8 → Nat
 | [] => 0
 | c :: l => c.toNat % 128 + 128 * low l
theorem low_snoc (l : List UInt8) (c : UInt8) : low (l ++ [c]) = low l + (c.toNat % 128) * 128 ^ l.length := by
 induction l with
 | nil => simp [low]
 | cons d l ih =>
  simp only [List.cons_append, low, ih, List.length_cons, Nat.pow_succ]
  rw [Nat.mul_add, Nat.add_assoc, Nat.mul_comm 128 (_ * _), Nat.mul_assoc]
abbrev Z3 (r : Nat × Nat × Nat) : Int × Int × Int := ((r.1 : Int), (r.2.1 : Int), (r.2.2 : Int))
theorem code_uint (s : ByteArray) (hs : s.size ≤ 9223372036854775806) : code_Uint.f s = some (Z3 (PCode.uint (L s))) := if_pos hs
end Go.Proofs.Ytaigmemmgjlhgaa.Print
-- RField
namespace Go.Proofs.Ytaigmemmgjlhgaa.Print
open Go.RowKit Txt Go.Proofs.YtaigmemmgjlhgaaW.PrintWords
theorem uint_len (l : List UInt8) : (PCode.uint l).2.1 ≤ l.length ∧ (PCode.uint l).1 < 18446744073709551616 := by
 rcases PCode.uintAt_err 0 l with h | h | h
 ·have := PCode.uint_ok (l := l) (n := (PCode.uint l).1) (s := (PCode.uint l).2.1) (by unfold PCode.uint; exact Prod.ext rfl (Prod.ext rfl h))
  exact ⟨this.2.2.1, this.2.2.2⟩
 ·unfold PCode.uint; rw [h]; simp
 ·unfold PCode.uint; rw [h]; simp
theorem field_len (s : ByteArray) (hs : s.size ≤ 4611686018427387904) (i : Nat) (hi : i ≤ s.size) : IntKind.u64.wrap (wrap64 ((s.size : Int) - (i : Int))) = ((s.size - i : Nat) : Int) := by
 rw [q0u (by omega) (by omega), q0o (by omega) (by omega)]; omega
theorem most_word (m : Int) (h0 : 0 ≤ m) (h1 : m ≤ 9223372036854775807) : IntKind.u64.wrap m = m := q0o h0 (by omega)
theorem code_field (s : ByteArray) (hs : s.size ≤ 4611686018427387904) (m : Int) (hm : -9223372036854775808 ≤ m ∧ m ≤ 9223372036854775807) : Ev (fun k => code_Field.f k s m) (ZT (PCode.field (L s) m)) := by
 obtain ⟨h1, h2⟩ := uint_len (L s)
 rw [q0g] at h1
 have e : ∀ k, code_Field.f k s m = (if ((PCode.uint (L s)).2.2 : Int) = 0 then (if m < 0 then (code_Field.j0 k s ((PCode.uint (L s)).1 : Int) ((PCode.uint (L s)).2.1 : Int) true) else (code_Field.j0 k s ((PCode.uint (L s)).1 : Int) ((PCode.uint (L s)).2.1 : Int) (decide (((PCode.uint (L s)).1 : Int) > (IntKind.u64.wrap (m)))))) else (some ((⟨#[]⟩ : ByteArray), 0, ((PCode.uint (L s)).2.2 : Int)))) := by
  intro k
  unfold code_Field.f
  rw [code_uint s (by omega)]
  rfl
 refine Ev.congr e ?_
 unfold PCode.field
 generalize PCode.uint (L s) = r at h1 h2
 obtain ⟨n, i, x⟩ := r
 simp only at h1 h2 ⊢
 by_cases hx : x = 0
 ·subst hx
  simp only [ne_eq, not_true_eq_false, if_false]
  by_cases hb : m < 0 ∨ m < (n : Int)
  ·rw [if_pos hb]
   refine Ev.congr (f := fun k => code_Field.j0 k s (n : Int) (i : Int) true) (fun k => ?_) ?_
   ·rw [if_pos (by omega)]
    by_cases h0 : m < 0
    ·rw [if_pos h0]
    ·rw [if_neg h0, most_word m (by omega) hm.2, decide_eq_true (by omega)]
   ·refine Ev.step (f := fun _ => some ((⟨#[]⟩ : ByteArray), 0, 3)) (fun k => ?_) (Ev.now _)
    simp only [code_Field.j0, if_true]
  ·rw [if_neg hb]
   refine Ev.congr (f := fun k => code_Field.j0 k s (n : Int) (i : Int) false) (fun k => ?_) ?_
   ·rw [if_pos (by omega), if_neg (by omega), most_word m (by omega) hm.2, decide_eq_false (by omega)]
   ·by_cases hl : (L s).length - i < n
    ·rw [if_pos hl]
     rw [q0g] at hl
     refine Ev.step (f := fun _ => some ((⟨#[]⟩ : ByteArray), 0, 6)) (fun k => ?_) (Ev.now _)
     simp only [code_Field.j0]
     rw [if_neg (by simp), field_len s hs i h1, if_pos (by omega)]
    ·rw [if_neg hl]
     rw [q0g] at hl
     have ew : wrap64 ((i : Int) + wrap64 (n : Int)) = ((i + n : Nat) : Int) := by
      rw [q0u (x := (n : Int)) (by omega) (by omega), q0u (by omega) (by omega)]; omega
     have et : s.extract i (i + n) = B (((L s).drop i).take n) := by
      apply L_inj; rw [L_extract, L_B, List.drop_take, Nat.add_sub_cancel_left]
     refine Ev.step (f := fun _ => some (s.extract i (i + n), ((i + n : Nat) : Int), 0)) (fun k => ?_) (by rw [et]; exact Ev.now _)
     simp only [code_Field.j0]
     rw [if_neg (by simp), field_len s hs i h1, if_neg (by omega), if_pos (by omega), ew, if_pos (by omega), if_pos (by omega)]
     rfl
 ·rw [if_pos hx]
  refine Ev.congr (f := fun _ => some ((⟨#[]⟩ : ByteArray), 0, (x : Int))) (fun k => ?_) (Ev.now _)
  rw [if_neg (by omega)]
theorem putUint_fits (n : Nat) (h : n < 18446744073709551616) : (B (PCode.putUint n)).size ≤ 10 := by
 rw [q0n]; exact PCode.putUint_length_ten h
theorem code_putField (s : ByteArray) (hs : s.size ≤ 4611686018427387904) : Ev (fun k => code_PutField.f k s) (B (PCode.putField (L s))) := by
 unfold code_PutField.f
 rw [q0o (by omega) (by omega)]
 refine Ev.bind (code_put s.size (by omega)) ?_
 have := putUint_fits s.size (by omega)
 have e : B (PCode.putUint s.size) ++ s = B (PCode.putField (L s)) := by
  apply L_inj; rw [q0t, L_B, L_B, PCode.putField, q0g]
 rw [if_pos (by omega), e]
 exact Ev.now _
theorem u64_of {a : Int} (h : (Lit.int .u64 a).wf = true) : ∃ n : Nat, a = n ∧ n < 18446744073709551616 := by
 have h2 : IntKind.u64.min ≤ a ∧ a ≤ IntKind.u64.max := by simpa [Lit.wf] using h
 have e1 : IntKind.u64.min = 0 := rfl
 have e2 : IntKind.u64.max = 18446744073709551615 := rfl
 exact ⟨a.toNat, by omega, by omega⟩
end Go.Proofs.Ytaigmemmgjlhgaa.Print
-- Print19
namespace Go.Proofs.Ytaigmemmgjlhgaa.Print
open Go.RowKit Go.Proofs.YtaigmemmgjlhgaaW.PrintWords Go.Proofs.YtaigmemmgjlhgaaW.PrintLast Go.Proofs.YtaigmemmgjlhgaaW.PrintMore
attribute [local go_sem] q1d q1b q1t q1s q19 q17 q1c q1a
set_option linter.unusedVariables false
set_option linter.unusedSimpArgs false
mutual
def freshetref01_More.l0 : Nat → ByteArray → Int → Int → Option (Int)
 | 0, _, _, _ => none
 | k + 1, x1, x5, x6 => if x6 < (x1.size : Int) then (if 0 ≤ x6 then (freshetref01_More.l1 k x1 (Go.bits .xor .u32 x5 ((bt x1 x6) % 4294967296)) x6 0) else (none)) else (some (Go.bits .xor .u32 x5 4294967295))
def freshetref01_More.l1 : Nat → ByteArray → Int → Int → Int → Option (Int)
 | 0, _, _, _, _ => none
 | k + 1, x1, x5, x6, x7 => if x7 < 8 then (if (Int.tmod x5 2) = 1 then (freshetref01_More.l1 k x1 (Go.bits .xor .u32 ((Int.tdiv x5 2) % 4294967296) 2197175160) x6 (wrap64 (x7 + 1))) else (freshetref01_More.l1 k x1 ((Int.tdiv x5 2) % 4294967296) x6 (wrap64 (x7 + 1)))) else (freshetref01_More.l0 k x1 x5 (wrap64 (x6 + 1)))
end
def freshetref01_More.f (k : Nat) (a0 : Int) (a1 : ByteArray) : Option (Int) := freshetref01_More.l0 k a1 (Go.bits .xor .u32 a0 4294967295) 0
theorem freshetref01_More.mono_l : ∀ k, (∀ y0 y1 y2, LeO (freshetref01_More.l0 k y0 y1 y2) (freshetref01_More.l0 (k + 1) y0 y1 y2)) ∧ (∀ y0 y1 y2 y3, LeO (freshetref01_More.l1 k y0 y1 y2 y3) (freshetref01_More.l1 (k + 1) y0 y1 y2 y3))
 | 0 => ⟨fun _ _ _ r h => by simp [freshetref01_More.l0] at h, fun _ _ _ _ r h => by simp [freshetref01_More.l1] at h⟩
 | k + 1 => by
  obtain ⟨ih0, ih1⟩ := freshetref01_More.mono_l k
  refine ⟨?_, ?_⟩
  ·intro y0 y1 y2
   unfold freshetref01_More.l0
   repeat' first
   | (with_reducible exact ih0 _ _ _)
   | (with_reducible exact ih1 _ _ _ _)
   | (with_reducible exact LeO.refl _)
   | (with_reducible exact LeO.none _)
   | (with_reducible refine LeO.ite ?_ ?_)
   | (with_reducible refine LeO.bind ?_ (fun _ => ?_))
   | exact ih0 _ _ _
   | exact ih1 _ _ _ _
   | exact LeO.none _
   | refine LeO.ite ?_ ?_
   | refine LeO.bind ?_ (fun _ => ?_)
  ·intro y0 y1 y2 y3
   unfold freshetref01_More.l1
   repeat' first
   | (with_reducible exact ih0 _ _ _)
   | (with_reducible exact ih1 _ _ _ _)
   | (with_reducible exact LeO.refl _)
   | (with_reducible exact LeO.none _)
   | (with_reducible refine LeO.ite ?_ ?_)
   | (with_reducible refine LeO.bind ?_ (fun _ => ?_))
   | exact ih0 _ _ _
   | exact ih1 _ _ _ _
   | exact LeO.none _
   | refine LeO.ite ?_ ?_
   | refine LeO.bind ?_ (fun _ => ?_)
theorem freshetref01_More.mono : ∀ a0 a1 k, LeO (freshetref01_More.f k a0 a1) (freshetref01_More.f (k + 1) a0 a1) := by
 intro a0 a1 k
 obtain ⟨ih0, ih1⟩ := freshetref01_More.mono_l k
 unfold freshetref01_More.f
 repeat' first
   | (with_reducible exact ih0 _ _ _)
   | (with_reducible exact ih1 _ _ _ _)
   | (with_reducible exact LeO.refl _)
   | (with_reducible exact LeO.none _)
   | (with_reducible refine LeO.ite ?_ ?_)
   | (with_reducible refine LeO.bind ?_ (fun _ => ?_))
   | exact ih0 _ _ _
   | exact ih1 _ _ _ _
   | exact LeO.none _
   | refine LeO.ite ?_ ?_
   | refine LeO.bind ?_ (fun _ => ?_)
set_option maxHeartbeats 8000000 in
set_option maxRecDepth 100000 in
theorem freshetref01_More.calls (k : Nat) (a0 : Int) (a1 : ByteArray) (r : Int) (w : World) (h : freshetref01_More.f k a0 a1 = some r) :
  Calls Try.prog 86 #[.int .u32 a0, .string a1] w fun e w' => e = .returned (.int .u32 r) ∧ q0k w w' := by
 have H : (freshetref01_More.l0 k a1 (Go.bits .xor .u32 a0 4294967295) 0) = some r := h
 clear h
 have H' := q04.mk H
 clear H
 go_enter Try.func86, Try.ntmps86
 go_wp2
 go_loopg [5, 6] k (fun kq v5 v6 w' => ∃ (x5_1 : Int) (x6_1 : Int), v5 = .int .u32 x5_1 ∧ v6 = .int .i64 x6_1 ∧ q04 (freshetref01_More.l0 kq a1 x5_1 x6_1 = some r) ∧ q04 (kq ≤ k) ∧ q0k w w')
 case atStart => exact ⟨(Go.bits .xor .u32 a0 4294967295), (0), (by first | rfl | (simp; done) | (simp [*]; done)), (by first | rfl | (simp; done) | (simp [*]; done)), H', ⟨Nat.le_refl _⟩, by repeat (first | exact q0k.refl _ | apply q0k.step)⟩
 case round =>
  clear H'
  try clear p2
  obtain ⟨x5_1, x6_1, rfl, rfl, HA, HK1, ⟨m1, rfl⟩⟩ := hrel
  cases gk with
  | zero => exact absurd HA.out (by simp [freshetref01_More.l0])
  | succ k1 =>
   have H := HA.out
   clear HA
   simp only [freshetref01_More.l0] at H
   by_cases c3 : x6_1 < (a1.size : Int)
   ·rw [if_pos c3] at H
    have c3b0 : decide (x6_1 < (a1.size : Int)) = true := decide_eq_true c3
    clear c3
    by_cases c4 : 0 ≤ x6_1
    ·rw [if_pos c4] at H
     have c4b0 : decide (0 ≤ x6_1) = true := decide_eq_true c4
     clear c4
     have H' := q04.mk H
     clear H
     have p5 : 0 ≤ (x6_1 : Int) := of_decide_eq_true (by first | (with_reducible assumption) | assumption)
     have q5 : x6_1 < (a1.size : Int) := of_decide_eq_true (by first | (with_reducible assumption) | assumption)
     have hx5 := bt_at a1 x6_1
     replace p5 := eq_true p5
     replace q5 := eq_true q5
     go_wp2
     go_loopg [5, 7] k1 (fun kq v5 v7 w' => ∃ (x5_2 : Int) (x7_2 : Int), v5 = .int .u32 x5_2 ∧ v7 = .int .i64 x7_2 ∧ q04 (freshetref01_More.l1 kq a1 x5_2 x6_1 x7_2 = some r) ∧ q04 (kq ≤ k1) ∧ q0k w w')
     case atStart => exact ⟨(Go.bits .xor .u32 x5_1 ((bt a1 x6_1) % 4294967296)), (0), (by first | rfl | (simp; done) | (simp [*]; done)), (by first | rfl | (simp; done) | (simp [*]; done)), H', ⟨Nat.le_refl _⟩, by repeat (first | exact q0k.refl _ | apply q0k.step)⟩
     case round =>
      clear H'
      try clear p2
      try clear c3
      try clear c3b0
      try clear c4
      try clear c4b0
      try clear p5
      try clear q5
      try clear hx5
      try clear p2
      try clear p5
      try clear q5
      obtain ⟨x5_2, x7_2, rfl, rfl, HA, HK2, ⟨m2, rfl⟩⟩ := hrel
      cases gk with
      | zero => exact absurd HA.out (by simp [freshetref01_More.l1])
      | succ k2 =>
       have H := HA.out
       clear HA
       simp only [freshetref01_More.l1] at H
       by_cases c6 : x7_2 < 8
       ·rw [if_pos c6] at H
        have c6b0 : decide (x7_2 < 8) = true := decide_eq_true c6
        clear c6
        by_cases c7 : (Int.tmod x5_2 2) = 1
        ·rw [if_pos c7] at H
         have c7b0 : ((Int.tmod x5_2 2) == 1) = true := beq_iff_eq.mpr c7
         have c7b1 : ((Int.tmod x5_2 2) != 1) = false := bne_eq_false_iff_eq.mpr c7
         clear c7
         have H' := q04.mk H
         clear H
         go_wp2
         go_roundg k2
         case measure => have := HK1.out; have := HK2.out; omega
         case rel => exact ⟨(Go.bits .xor .u32 ((Int.tdiv x5_2 2) % 4294967296) 2197175160), (wrap64 (x7_2 + 1)), (by first | rfl | (simp; done) | (simp [*]; done)), (by first | rfl | (simp; done) | (simp [*]; done)), H', ⟨by have := HK1.out; have := HK2.out; omega⟩, by repeat (first | exact q0k.refl _ | apply q0k.step)⟩
        ·rw [if_neg c7] at H
         have c7b0 : ((Int.tmod x5_2 2) == 1) = false := beq_eq_false_iff_ne.mpr c7
         have c7b1 : ((Int.tmod x5_2 2) != 1) = true := bne_iff_ne.mpr c7
         have H' := q04.mk H
         clear H
         go_wp2
         go_roundg k2
         case measure => have := HK1.out; have := HK2.out; omega
         case rel => exact ⟨((Int.tdiv x5_2 2) % 4294967296), (wrap64 (x7_2 + 1)), (by first | rfl | (simp; done) | (simp [*]; done)), (by first | rfl | (simp; done) | (simp [*]; done)), H', ⟨by have := HK1.out; have := HK2.out; omega⟩, by repeat (first | exact q0k.refl _ | apply q0k.step)⟩
       ·rw [if_neg c6] at H
        have c6b0 : decide (x7_2 < 8) = false := decide_eq_false c6
        clear c6
        have H' := q04.mk H
        clear H
        go_wp2
        go_roundg k2
        case measure => have := HK1.out; have := HK2.out; omega
        case rel => exact ⟨(x5_2), (wrap64 (x6_1 + 1)), (by first | rfl | (simp; done) | (simp [*]; done)), (by first | rfl | (simp; done) | (simp [*]; done)), H', ⟨by have := HK1.out; have := HK2.out; omega⟩, by repeat (first | exact q0k.refl _ | apply q0k.step)⟩
    ·rw [if_neg c4] at H
     exact absurd H (by simp)
   ·rw [if_neg c3] at H
    have c3b0 : decide (x6_1 < (a1.size : Int)) = false := decide_eq_false c3
    clear c3
    obtain rfl := Option.some.inj H
    go_wp2
    go_ret
    exact ⟨by first | rfl | (simp; done) | (simp [*]; done), by repeat (first | exact q0k.refl _ | apply q0k.step)⟩
def freshetref01_Of.f (k : Nat) (a0 : ByteArray) : Option (Int) := (freshetref01_More.f k 0 a0).bind fun t258 => (some t258)
theorem freshetref01_Of.mono : ∀ a0 k, LeO (freshetref01_Of.f k a0) (freshetref01_Of.f (k + 1) a0) := by
 intro a0 k
 unfold freshetref01_Of.f
 repeat' first
   | (with_reducible exact freshetref01_More.mono _ _ _)
   | (with_reducible exact LeO.refl _)
   | (with_reducible exact LeO.none _)
   | (with_reducible refine LeO.ite ?_ ?_)
   | (with_reducible refine LeO.bind ?_ (fun _ => ?_))
   | exact freshetref01_More.mono _ _ _
   | exact LeO.none _
   | refine LeO.ite ?_ ?_
   | refine LeO.bind ?_ (fun _ => ?_)
set_option maxHeartbeats 8000000 in
set_option maxRecDepth 100000 in
theorem freshetref01_Of.calls (k : Nat) (a0 : ByteArray) (r : Int) (w : World) (h : freshetref01_Of.f k a0 = some r) :
  Calls Try.prog 76 #[.string a0] w fun e w' => e = .returned (.int .u32 r) ∧ q0k w w' := by
 have H : ((freshetref01_More.f k 0 a0).bind fun t258 => (some t258)) = some r := h
 clear h
 replace H := Option.bind_eq_some_iff.mp H
 obtain ⟨t258, A20, H⟩ := H
 replace H : (some t258) = some r := H
 have A2 := q04.mk A20
 clear A20
 obtain rfl := Option.some.inj H
 go_enter Try.func76, Try.ntmps76
 go_wp2_with (first | ((with_reducible refine q0h (f := 86) rfl ?_); refine q0s (some 4) rfl rfl Try.func86 (by kernel_rfl) rfl #[.int .u32 0, .string a0] rfl (by (try simp only [List.map_toArray, List.map_cons, List.map_nil]); first | done | rfl | (simp only [List.length_drop, List.length_take]; rfl)) ?_; (with_reducible refine (freshetref01_More.calls k 0 a0 t258 _ A2.out).mono ?_); rintro e w' ⟨rfl, ⟨nd, rfl⟩⟩; refine ⟨_, rfl, ?_⟩))
 go_ret
 exact ⟨by first | rfl | (simp; done) | (simp [*]; done), by repeat (first | exact q0k.refl _ | apply q0k.step)⟩
def freshetref04_seal.f (k : Nat) (a0 : ByteArray) : Option (ByteArray) := (freshetref01_Of.f k a0).bind fun t259 => (some (strOfNums (([(Int.tmod t259 256) % 256, ((Int.tdiv t259 256) % 4294967296) % 256, ((Int.tdiv t259 65536) % 4294967296) % 256, ((Int.tdiv t259 16777216) % 4294967296) % 256] : List Int))))
theorem freshetref04_seal.mono : ∀ a0 k, LeO (freshetref04_seal.f k a0) (freshetref04_seal.f (k + 1) a0) := by
 intro a0 k
 unfold freshetref04_seal.f
 repeat' first
   | (with_reducible exact freshetref01_Of.mono _ _)
   | (with_reducible exact LeO.refl _)
   | (with_reducible exact LeO.none _)
   | (with_reducible refine LeO.ite ?_ ?_)
   | (with_reducible refine LeO.bind ?_ (fun _ => ?_))
   | exact freshetref01_Of.mono _ _
   | exact LeO.none _
   | refine LeO.ite ?_ ?_
   | refine LeO.bind ?_ (fun _ => ?_)
set_option maxHeartbeats 8000000 in
set_option maxRecDepth 100000 in
theorem freshetref04_seal.calls (k : Nat) (a0 : ByteArray) (r : ByteArray) (w : World) (h : freshetref04_seal.f k a0 = some r) :
  Calls Try.prog 73 #[.string a0] w fun e w' => e = .returned (.string r) ∧ Below w.heap.size w w' := by
 have HB := q04.mk (Below.refl w.heap.size w)
 have H : ((freshetref01_Of.f k a0).bind fun t259 => (some (strOfNums (([(Int.tmod t259 256) % 256, ((Int.tdiv t259 256) % 4294967296) % 256, ((Int.tdiv t259 65536) % 4294967296) % 256, ((Int.tdiv t259 16777216) % 4294967296) % 256] : List Int))))) = some r := h
 clear h
 replace H := Option.bind_eq_some_iff.mp H
 obtain ⟨t259, A20, H⟩ := H
 replace H : (some (strOfNums (([(Int.tmod t259 256) % 256, ((Int.tdiv t259 256) % 4294967296) % 256, ((Int.tdiv t259 65536) % 4294967296) % 256, ((Int.tdiv t259 16777216) % 4294967296) % 256] : List Int)))) = some r := H
 have A2 := q04.mk A20
 clear A20
 obtain ⟨y260, hy260⟩ : ∃ y_ : List Int, y_ = (([(Int.tmod t259 256) % 256, ((Int.tdiv t259 256) % 4294967296) % 256, ((Int.tdiv t259 65536) % 4294967296) % 256, ((Int.tdiv t259 16777216) % 4294967296) % 256] : List Int)) := ⟨_, rfl⟩
 replace H : (some (strOfNums y260)) = some r := by first | (rw [hy260]; with_reducible exact H) | (have H2_ := (Option.bind_some _ _).symm.trans H; rw [hy260]; with_reducible exact H2_) | (have H2_ := (Option.bind_some _ _).symm.trans H; with_reducible exact H2_) | with_reducible exact H | (rw [hy260]; exact H) | exact H
 have Ny260 := q04.mk hy260
 clear hy260
 obtain rfl := Option.some.inj H
 go_enter Try.func73, Try.ntmps73
 go_wp2_with (first | ((with_reducible refine q0h (f := 76) rfl ?_); refine q0s (some 5) rfl rfl Try.func76 (by kernel_rfl) rfl #[.string a0] rfl (by (try simp only [List.map_toArray, List.map_cons, List.map_nil]); first | done | rfl | (simp only [List.length_drop, List.length_take]; rfl)) ?_; (with_reducible refine (freshetref01_Of.calls k a0 t259 _ A2.out).mono ?_); rintro e w' ⟨rfl, ⟨nd, rfl⟩⟩; refine ⟨_, rfl, ?_⟩) | ((with_reducible refine q0q (N := 20) rfl ?_); refine Kd.R_lit (Kd.int .u8) _ 5 ?hg (N := 20) ?hd (xs := ([(Int.tmod t259 256) % 256, ((Int.tdiv t259 256) % 4294967296) % 256, ((Int.tdiv t259 65536) % 4294967296) % 256, ((Int.tdiv t259 16777216) % 4294967296) % 256] : List Int)) (inner := [.int .u8 ((Int.tmod t259 256) % 256), .int .u8 (((Int.tdiv t259 256) % 4294967296) % 256), .int .u8 (((Int.tdiv t259 65536) % 4294967296) % 256), .int .u8 (((Int.tdiv t259 16777216) % 4294967296) % 256)]) (ok := fun _ => True) (okp := fun _ => True) ?hr ?hp (fun _ hk => hk) trivial (Below.refl _ _) (Nat.le_refl _) (by simp) ?_; (case hd => rfl); (case hg => rfl); (case hr => first | (go_simp; done) | (go_simp; rfl)); (case hp => exact (Reps.one (show Kd.M (Kd.int .u8) _ _ _ ((Int.tmod t259 256) % 256) [.int .u8 ((Int.tmod t259 256) % 256)] from rfl) (Reps.one (show Kd.M (Kd.int .u8) _ _ _ (((Int.tdiv t259 256) % 4294967296) % 256) [.int .u8 (((Int.tdiv t259 256) % 4294967296) % 256)] from rfl) (Reps.one (show Kd.M (Kd.int .u8) _ _ _ (((Int.tdiv t259 65536) % 4294967296) % 256) [.int .u8 (((Int.tdiv t259 65536) % 4294967296) % 256)] from rfl) (Reps.one (show Kd.M (Kd.int .u8) _ _ _ (((Int.tdiv t259 16777216) % 4294967296) % 256) [.int .u8 (((Int.tdiv t259 16777216) % 4294967296) % 256)] from rfl) (Reps.none _ _)))))); intro v261 w3 ho4 hb hg_ hnew_; clear hg_ hnew_; (first | rw [← Ny260.out] at ho4 | (simp only [Int.reduceToNat] at ho4; rw [← Ny260.out] at ho4)); have n0_ := q04.mk (Kd.R_lower ho4 (q0e (by repeat (first | (with_reducible first | exact HB.out | apply q02 | apply q00 | apply q01) | exact HB.out)))); have n1_ := q04.mk (q0a (by repeat (first | (with_reducible first | exact HB.out | apply q02 | apply q00 | apply q01) | exact HB.out)) hb); clear HB; have HO262 := n0_; have HB := n1_; clear n0_ n1_; clear hb ho4; have hcv5 := q14 (P := Try.prog) Try.underlying55 Try.underlying5 Try.underlying9 (Kd.own_of_R HO262.out)))
 go_ret
 exact ⟨by first | rfl | (simp [q0c, q0b] <;> rfl) | (simp [*, q0c, q0b] <;> rfl), by repeat (first | (with_reducible first | exact HB.out | apply q02 | apply q00 | apply q01) | exact HB.out)⟩
def freshetref04_Put.f (k : Nat) (a0 : ByteArray) : Option (ByteArray × Int) := if (a0.size : Int) > 65536 then (some ((⟨#[]⟩ : ByteArray), 3)) else ((freshetref02_PutUint.f k (IntKind.u64.wrap ((a0.size : Int)))).bind fun t263 => (if t263.size + a0.size ≤ 9223372036854775807 then ((freshetref04_seal.f k (t263 ++ a0)).bind fun t264 => (if (t263 ++ a0).size + t264.size ≤ 9223372036854775807 then (some ((t263 ++ a0) ++ t264, 0)) else (none))) else (none)))
theorem freshetref04_Put.mono : ∀ a0 k, LeO (freshetref04_Put.f k a0) (freshetref04_Put.f (k + 1) a0) := by
 intro a0 k
 unfold freshetref04_Put.f
 repeat' first
   | (with_reducible exact freshetref02_PutUint.mono _ _)
   | (with_reducible exact freshetref04_seal.mono _ _)
   | (with_reducible exact LeO.refl _)
   | (with_reducible exact LeO.none _)
   | (with_reducible refine LeO.ite ?_ ?_)
   | (with_reducible refine LeO.bind ?_ (fun _ => ?_))
   | exact freshetref02_PutUint.mono _ _
   | exact freshetref04_seal.mono _ _
   | exact LeO.none _
   | refine LeO.ite ?_ ?_
   | refine LeO.bind ?_ (fun _ => ?_)
set_option maxHeartbeats 8000000 in
set_option maxRecDepth 100000 in
theorem freshetref04_Put.calls (k : Nat) (a0 : ByteArray) (r1 : ByteArray) (r2 : Int) (w : World) (h : freshetref04_Put.f k a0 = some (r1, r2)) :
  Calls Try.prog 49 #[.string a0] w fun e w' => e = .returned (.tuple #[.string r1, .int .i64 r2]) ∧ Below w.heap.size w w' := by
 have HB := q04.mk (Below.refl w.heap.size w)
 have H : (if (a0.size : Int) > 65536 then (some ((⟨#[]⟩ : ByteArray), 3)) else ((freshetref02_PutUint.f k (IntKind.u64.wrap ((a0.size : Int)))).bind fun t263 => (if t263.size + a0.size ≤ 9223372036854775807 then ((freshetref04_seal.f k (t263 ++ a0)).bind fun t264 => (if (t263 ++ a0).size + t264.size ≤ 9223372036854775807 then (some ((t263 ++ a0) ++ t264, 0)) else (none))) else (none)))) = some (r1, r2) := h
 clear h
 by_cases c2 : (a0.size : Int) > 65536
 ·rw [if_pos c2] at H
  have c2b0 : decide (65536 < (a0.size : Int)) = true := decide_eq_true c2
  have c2b1 : decide (65536 < a0.size) = true := decide_eq_true (by omega)
  clear c2
  simp only [Option.some.injEq, Prod.mk.injEq] at H
  obtain ⟨rfl, rfl⟩ := H
  go_enter Try.func49, Try.ntmps49
  go_wp2
  go_ret2
  exact ⟨by first | rfl | (simp [q0c, q0b] <;> rfl) | (simp [*, q0c, q0b] <;> rfl), by repeat (first | (with_reducible first | exact HB.out | apply q02 | apply q00 | apply q01) | exact HB.out)⟩
 ·rw [if_neg c2] at H
  have c2b0 : decide (65536 < (a0.size : Int)) = false := decide_eq_false c2
  have c2b1 : decide (65536 < a0.size) = false := decide_eq_false (by omega)
  clear c2
  replace H := Option.bind_eq_some_iff.mp H
  obtain ⟨t263, A30, H⟩ := H
  replace H : (if t263.size + a0.size ≤ 9223372036854775807 then ((freshetref04_seal.f k (t263 ++ a0)).bind fun t264 => (if (t263 ++ a0).size + t264.size ≤ 9223372036854775807 then (some ((t263 ++ a0) ++ t264, 0)) else (none))) else (none)) = some (r1, r2) := H
  have A3 := q04.mk A30
  clear A30
  by_cases c4 : t263.size + a0.size ≤ 9223372036854775807
  ·rw [if_pos c4] at H
   have c4b0 := eq_true c4
   have c4b1 : decide (t263.size + a0.size ≤ 9223372036854775807) = true := decide_eq_true c4
   try have c4b2 : (9223372036854775807 < t263.size + a0.size) = False := eq_false (Nat.not_lt.2 c4)
   replace H := Option.bind_eq_some_iff.mp H
   obtain ⟨t264, A50, H⟩ := H
   replace H : (if (t263 ++ a0).size + t264.size ≤ 9223372036854775807 then (some ((t263 ++ a0) ++ t264, 0)) else (none)) = some (r1, r2) := H
   have A5 := q04.mk A50
   clear A50
   by_cases c6 : (t263 ++ a0).size + t264.size ≤ 9223372036854775807
   ·rw [if_pos c6] at H
    have c6b0 := eq_true c6
    have c6b1 : decide ((t263 ++ a0).size + t264.size ≤ 9223372036854775807) = true := decide_eq_true c6
    try have c6b1m := c6b1
    try simp only [ByteArray.size_append, Int.natCast_add] at c6b1m
    try have c6b2 : (9223372036854775807 < (t263 ++ a0).size + t264.size) = False := eq_false (Nat.not_lt.2 c6)
    try have c6b4 := c6
    try simp only [ByteArray.size_append, ByteArray.size_extract] at c6b4
    try have c6b6 := c6b2
    try simp only [ByteArray.size_append, ByteArray.size_extract] at c6b6
    simp only [Option.some.injEq, Prod.mk.injEq] at H
    obtain ⟨rfl, rfl⟩ := H
    have hw : IntKind.u64.wrap ((a0.size : Int)) = (a0.size : Int) := by simp only [IntKind.wrap, IntKind.bits, IntKind.signed, Bool.false_and, Bool.false_eq_true, if_false]; omega
    replace A3 := q04.mk (hw ▸ A3.out)
    go_enter Try.func49, Try.ntmps49
    go_wp2_with (first | ((with_reducible refine q0h (f := 48) rfl ?_); refine q0s (some 11) rfl rfl Try.func48 (by kernel_rfl) rfl #[.int .u64 ((a0.size : Int))] rfl (by (try simp only [List.map_toArray, List.map_cons, List.map_nil]); first | done | rfl | (simp only [List.length_drop, List.length_take]; rfl)) ?_; (with_reducible refine (freshetref02_PutUint.calls k ((a0.size : Int)) t263 _ A3.out).mono ?_); rintro e w7 ⟨rfl, hb⟩; refine ⟨_, rfl, ?_⟩; have n0_ := q04.mk (q0a (by repeat (first | (with_reducible first | exact HB.out | apply q02 | apply q00 | apply q01) | exact HB.out)) hb); clear HB; have HB := n0_; clear n0_; (try clear hb); (try clear hb2); (try clear hk); (try clear hi)) | ((with_reducible refine q0h (f := 73) rfl ?_); refine q0s (some 16) rfl rfl Try.func73 (by kernel_rfl) rfl #[.string (t263 ++ a0)] rfl (by (try simp only [List.map_toArray, List.map_cons, List.map_nil]); first | done | rfl | (simp only [List.length_drop, List.length_take]; rfl)) ?_; (with_reducible refine (freshetref04_seal.calls k (t263 ++ a0) t264 _ A5.out).mono ?_); rintro e w8 ⟨rfl, hb⟩; refine ⟨_, rfl, ?_⟩; have n0_ := q04.mk (q0a (by repeat (first | (with_reducible first | exact HB.out | apply q02 | apply q00 | apply q01) | exact HB.out)) hb); clear HB; have HB := n0_; clear n0_; (try clear hb); (try clear hb2); (try clear hk); (try clear hi)))
    go_ret2
    exact ⟨by first | rfl | (simp [q0c, q0b] <;> rfl) | (simp [*, q0c, q0b] <;> rfl), by repeat (first | (with_reducible first | exact HB.out | apply q02 | apply q00 | apply q01) | exact HB.out)⟩
   ·rw [if_neg c6] at H
    exact absurd H (by simp)
  ·rw [if_neg c4] at H
   exact absurd H (by simp)
mutual
def freshetref01_Hash.l0 : Nat → ByteArray → Int → Int → Option (Int)
 | 0, _, _, _ => none
 | k + 1, x1, x5, x6 => if x6 < (x1.size : Int) then (if 0 ≤ x6 then (freshetref01_Hash.l0 k x1 (((Go.bits .xor .u32 x5 ((bt x1 x6) % 4294967296)) * 16777619) % 4294967296) (wrap64 (x6 + 1))) else (none)) else (freshetref01_Hash.l1 k x5 0)
def freshetref01_Hash.l1 : Nat → Int → Int → Option (Int)
 | 0, _, _ => none
 | k + 1, x5, x7 => if x7 < 3 then (freshetref01_Hash.l1 k (((Go.bits .xor .u32 x5 ((Int.tdiv x5 32768) % 4294967296)) * 739982445) % 4294967296) (wrap64 (x7 + 1))) else (some x5)
end
def freshetref01_Hash.f (k : Nat) (a0 : Int) (a1 : ByteArray) : Option (Int) := freshetref01_Hash.l0 k a1 (Go.bits .xor .u32 a0 2166136261) 0
theorem freshetref01_Hash.mono_l : ∀ k, (∀ y0 y1 y2, LeO (freshetref01_Hash.l0 k y0 y1 y2) (freshetref01_Hash.l0 (k + 1) y0 y1 y2)) ∧ (∀ y0 y1, LeO (freshetref01_Hash.l1 k y0 y1) (freshetref01_Hash.l1 (k + 1) y0 y1))
 | 0 => ⟨fun _ _ _ r h => by simp [freshetref01_Hash.l0] at h, fun _ _ r h => by simp [freshetref01_Hash.l1] at h⟩
 | k + 1 => by
  obtain ⟨ih0, ih1⟩ := freshetref01_Hash.mono_l k
  refine ⟨?_, ?_⟩
  ·intro y0 y1 y2
   unfold freshetref01_Hash.l0
   repeat' first
   | (with_reducible exact ih0 _ _ _)
   | (with_reducible exact ih1 _ _)
   | (with_reducible exact LeO.refl _)
   | (with_reducible exact LeO.none _)
   | (with_reducible refine LeO.ite ?_ ?_)
   | (with_reducible refine LeO.bind ?_ (fun _ => ?_))
   | exact ih0 _ _ _
   | exact ih1 _ _
   | exact LeO.none _
   | refine LeO.ite ?_ ?_
   | refine LeO.bind ?_ (fun _ => ?_)
  ·intro y0 y1
   unfold freshetref01_Hash.l1
   repeat' first
   | (with_reducible exact ih0 _ _ _)
   | (with_reducible exact ih1 _ _)
   | (with_reducible exact LeO.refl _)
   | (with_reducible exact LeO.none _)
   | (with_reducible refine LeO.ite ?_ ?_)
   | (with_reducible refine LeO.bind ?_ (fun _ => ?_))
   | exact ih0 _ _ _
   | exact ih1 _ _
   | exact LeO.none _
   | refine LeO.ite ?_ ?_
   | refine LeO.bind ?_ (fun _ => ?_)
theorem freshetref01_Hash.mono : ∀ a0 a1 k, LeO (freshetref01_Hash.f k a0 a1) (freshetref01_Hash.f (k + 1) a0 a1) := by
 intro a0 a1 k
 obtain ⟨ih0, ih1⟩ := freshetref01_Hash.mono_l k
 unfold freshetref01_Hash.f
 repeat' first
   | (with_reducible exact ih0 _ _ _)
   | (with_reducible exact ih1 _ _)
   | (with_reducible exact LeO.refl _)
   | (with_reducible exact LeO.none _)
   | (with_reducible refine LeO.ite ?_ ?_)
   | (with_reducible refine LeO.bind ?_ (fun _ => ?_))
   | exact ih0 _ _ _
   | exact ih1 _ _
   | exact LeO.none _
   | refine LeO.ite ?_ ?_
   | refine LeO.bind ?_ (fun _ => ?_)
set_option maxHeartbeats 8000000 in
set_option maxRecDepth 100000 in
theorem freshetref01_Hash.calls (k : Nat) (a0 : Int) (a1 : ByteArray) (r : Int) (w : World) (h : freshetref01_Hash.f k a0 a1 = some r) :
  Calls Try.prog 85 #[.int .u32 a0, .string a1] w fun e w' => e = .returned (.int .u32 r) ∧ q0k w w' := by
 have H : (freshetref01_Hash.l0 k a1 (Go.bits .xor .u32 a0 2166136261) 0) = some r := h
 clear h
 have H' := q04.mk H
 clear H
 go_enter Try.func85, Try.ntmps85
 go_wp2
 go_loopg [5, 6] k (fun kq v5 v6 w' => ∃ (x5_1 : Int) (x6_1 : Int), v5 = .int .u32 x5_1 ∧ v6 = .int .i64 x6_1 ∧ q04 (freshetref01_Hash.l0 kq a1 x5_1 x6_1 = some r) ∧ q04 (kq ≤ k) ∧ q0k w w')
 case atStart => exact ⟨(Go.bits .xor .u32 a0 2166136261), (0), (by first | rfl | (simp; done) | (simp [*]; done)), (by first | rfl | (simp; done) | (simp [*]; done)), H', ⟨Nat.le_refl _⟩, by repeat (first | exact q0k.refl _ | apply q0k.step)⟩
 case round =>
  clear H'
  try clear p2
  obtain ⟨x5_1, x6_1, rfl, rfl, HA, HK1, ⟨m1, rfl⟩⟩ := hrel
  cases gk with
  | zero => exact absurd HA.out (by simp [freshetref01_Hash.l0])
  | succ k1 =>
   have H := HA.out
   clear HA
   simp only [freshetref01_Hash.l0] at H
   by_cases c3 : x6_1 < (a1.size : Int)
   ·rw [if_pos c3] at H
    have c3b0 : decide (x6_1 < (a1.size : Int)) = true := decide_eq_true c3
    clear c3
    by_cases c4 : 0 ≤ x6_1
    ·rw [if_pos c4] at H
     have c4b0 : decide (0 ≤ x6_1) = true := decide_eq_true c4
     clear c4
     have H' := q04.mk H
     clear H
     have p5 : 0 ≤ (x6_1 : Int) := of_decide_eq_true (by first | (with_reducible assumption) | assumption)
     have q5 : x6_1 < (a1.size : Int) := of_decide_eq_true (by first | (with_reducible assumption) | assumption)
     have hx5 := bt_at a1 x6_1
     replace p5 := eq_true p5
     replace q5 := eq_true q5
     go_wp2
     go_roundg k1
     case measure => have := HK1.out; omega
     case rel => exact ⟨(((Go.bits .xor .u32 x5_1 ((bt a1 x6_1) % 4294967296)) * 16777619) % 4294967296), (wrap64 (x6_1 + 1)), (by first | rfl | (simp; done) | (simp [*]; done)), (by first | rfl | (simp; done) | (simp [*]; done)), H', ⟨by have := HK1.out; omega⟩, by repeat (first | exact q0k.refl _ | apply q0k.step)⟩
    ·rw [if_neg c4] at H
     exact absurd H (by simp)
   ·rw [if_neg c3] at H
    have c3b0 : decide (x6_1 < (a1.size : Int)) = false := decide_eq_false c3
    clear c3
    have H' := q04.mk H
    clear H
    go_wp2
    go_loopg [5, 7] k1 (fun kq v5 v7 w' => ∃ (x5_2 : Int) (x7_2 : Int), v5 = .int .u32 x5_2 ∧ v7 = .int .i64 x7_2 ∧ q04 (freshetref01_Hash.l1 kq x5_2 x7_2 = some r) ∧ q04 (kq ≤ k1) ∧ q0k w w')
    case atStart => exact ⟨(x5_1), (0), (by first | rfl | (simp; done) | (simp [*]; done)), (by first | rfl | (simp; done) | (simp [*]; done)), H', ⟨Nat.le_refl _⟩, by repeat (first | exact q0k.refl _ | apply q0k.step)⟩
    case round =>
     clear H'
     try clear p2
     try clear c3
     try clear c3b0
     try clear c4
     try clear c4b0
     try clear p5
     try clear q5
     try clear hx5
     try clear p2
     try clear p5
     try clear q5
     obtain ⟨x5_2, x7_2, rfl, rfl, HA, HK2, ⟨m2, rfl⟩⟩ := hrel
     cases gk with
     | zero => exact absurd HA.out (by simp [freshetref01_Hash.l1])
     | succ k2 =>
      have H := HA.out
      clear HA
      simp only [freshetref01_Hash.l1] at H
      by_cases c6 : x7_2 < 3
      ·rw [if_pos c6] at H
       have c6b0 : decide (x7_2 < 3) = true := decide_eq_true c6
       clear c6
       have H' := q04.mk H
       clear H
       go_wp2
       go_roundg k2
       case measure => have := HK1.out; have := HK2.out; omega
       case rel => exact ⟨(((Go.bits .xor .u32 x5_2 ((Int.tdiv x5_2 32768) % 4294967296)) * 739982445) % 4294967296), (wrap64 (x7_2 + 1)), (by first | rfl | (simp; done) | (simp [*]; done)), (by first | rfl | (simp; done) | (simp [*]; done)), H', ⟨by have := HK1.out; have := HK2.out; omega⟩, by repeat (first | exact q0k.refl _ | apply q0k.step)⟩
      ·rw [if_neg c6] at H
       have c6b0 : decide (x7_2 < 3) = false := decide_eq_false c6
       clear c6
       obtain rfl := Option.some.inj H
       go_wp2
       go_ret
       exact ⟨by first | rfl | (simp; done) | (simp [*]; done), by repeat (first | exact q0k.refl _ | apply q0k.step)⟩
end Go.Proofs.Ytaigmemmgjlhgaa.Print
-- RSumO
namespace Go.Proofs.Ytaigmemmgjlhgaa.Print
open Go.RowKit PLink Txt Go.Proofs.YtaigmemmgjlhgaaW.PrintWords
theorem ref_l1 (s : ByteArray) (i : Int) (hi : wrap64 (i + 1) = i + 1) (out : Int) (n : Nat) : ∀ (x : BitVec 32) (j : Int), j + n = 8 → 0 ≤ j → Ev (fun k => freshetref01_More.l0 k s (I (PCrc.zs n x)) (i + 1)) out → Ev (fun k => freshetref01_More.l1 k s (I x) i j) out := by
 induction n with
 | zero =>
  intro x j hj h0 h
  refine Ev.step (fun k => ?_) h
  simp only [freshetref01_More.l1]
  rw [if_neg (by omega), hi]
  rfl
 | succ n ih =>
  intro x j hj h0 h
  refine Ev.step (fun k => ?_) (ih (PCrc.z x) (j + 1) (by omega) (by omega) h)
  simp only [freshetref01_More.l1]
  rw [if_pos (by omega), q0u (by omega) (by omega), tdiv_word x 2 (by omega), tmod_word]
  cases hb : x.getLsbD 0 with
  | true => rw [if_pos ((odd_word x).2 hb), z_one hb]
  | false =>
   have : ¬ I x % 2 = 1 := fun e => by rw [(odd_word x).1 e] at hb; cases hb
   rw [if_neg this, z_none hb]
theorem ref_l0 (s : ByteArray) (hs : s.size ≤ 9223372036854775806) (d : Nat) : ∀ (x : BitVec 32) (i : Nat), i + d = s.size → Ev (fun k => freshetref01_More.l0 k s (I x) i) (I (~~~ PCrc.fold x ((L s).drop i))) := by
 induction d with
 | zero =>
  intro x i hi
  refine Ev.step (f := fun _ => some (I (~~~ x))) (fun k => ?_) (by rw [List.drop_of_length_le (by rw [q0g]; omega)]; exact Ev.now _)
  simp only [freshetref01_More.l0]
  rw [if_neg (by omega), not_xor]
 | succ d ih =>
  intro x i hi
  have hlt : i < s.size := by omega
  have h := ih (PCrc.step x ((L s)[i]'(by rw [q0g]; exact hlt))) (i + 1) (by omega)
  have e : PCrc.fold x ((L s).drop i) = PCrc.fold (PCrc.step x ((L s)[i]'(by rw [q0g]; exact hlt))) ((L s).drop (i + 1)) := by rw [drop_at s hlt]; rfl
  rw [e]
  refine Ev.step (fun k => ?_) (ref_l1 s i (q0u (by omega) (by omega)) _ 8 (x ^^^ ((L s)[i]'(by rw [q0g]; exact hlt)).toBitVec.setWidth 32) 0 (by omega) (by omega) h)
  simp only [freshetref01_More.l0]
  rw [if_pos (by omega), if_pos (by omega), bt_get s (by omega) (by omega)]
  simp only [Int.toNat_natCast]
  rw [byte_id, xor_byte]
theorem ref_more (r : BitVec 32) (s : ByteArray) (hs : s.size ≤ 9223372036854775806) : Ev (fun k => freshetref01_More.f k (I r) s) (I (PCrc.sum r (L s))) := by
 refine Ev.congr (fun k => ?_) (ref_l0 s hs s.size (~~~ r) 0 (by omega))
 unfold freshetref01_More.f
 rw [not_xor]
 rfl
theorem ref_of (s : ByteArray) (hs : s.size ≤ 9223372036854775806) : Ev (fun k => freshetref01_Of.f k s) (I (PCrc.sum 0 (L s))) := by
 have e : ∀ k, freshetref01_Of.f k s = freshetref01_More.f k (I 0) s := by
  intro k
  unfold freshetref01_Of.f
  show (freshetref01_More.f k (I 0) s).bind _ = _
  cases freshetref01_More.f k (I 0) s <;> rfl
 exact Ev.congr e (ref_more 0 s hs)
theorem of_f (s : ByteArray) (h : s.size ≤ 9223372036854775807) : sum_Of.f s = some (I (PCrc.sum 0 (L s))) := if_pos h
end Go.Proofs.Ytaigmemmgjlhgaa.Print
-- Print7
namespace Go.Proofs.Ytaigmemmgjlhgaa.Print
open Go.RowKit Go.Proofs.YtaigmemmgjlhgaaW.PrintWords Go.Proofs.YtaigmemmgjlhgaaW.PrintLast Go.Proofs.YtaigmemmgjlhgaaW.PrintMore
attribute [local go_sem] q1d q1b q1t q1s q19 q17 q1c q1a
set_option linter.unusedVariables false
set_option linter.unusedSimpArgs false
def block_four.f (a0 : Int) : Option (ByteArray) := some (strOfNums (([(a0) % 256, (a0 / 256) % 256, (a0 / 65536) % 256, (a0 / 16777216) % 256] : List Int)))
set_option maxHeartbeats 8000000 in
set_option maxRecDepth 100000 in
theorem block_four.calls (a0 : Int) (r : ByteArray) (w : World) (h : block_four.f a0 = some r) :
  Calls Try.prog 60 #[.int .i64 a0] w fun e w' => e = .returned (.string r) ∧ Below w.heap.size w w' := by
 have HB := q04.mk (Below.refl w.heap.size w)
 have H : (some (strOfNums (([(a0) % 256, (a0 / 256) % 256, (a0 / 65536) % 256, (a0 / 16777216) % 256] : List Int)))) = some r := h
 clear h
 obtain ⟨y124, hy124⟩ : ∃ y_ : List Int, y_ = (([(a0) % 256, (a0 / 256) % 256, (a0 / 65536) % 256, (a0 / 16777216) % 256] : List Int)) := ⟨_, rfl⟩
 replace H : (some (strOfNums y124)) = some r := by first | (rw [hy124]; with_reducible exact H) | (have H2_ := (Option.bind_some _ _).symm.trans H; rw [hy124]; with_reducible exact H2_) | (have H2_ := (Option.bind_some _ _).symm.trans H; with_reducible exact H2_) | with_reducible exact H | (rw [hy124]; exact H) | exact H
 have Ny124 := q04.mk hy124
 clear hy124
 obtain rfl := Option.some.inj H
 go_enter Try.func60, Try.ntmps60
 go_wp2_with (first | ((with_reducible refine q0q (N := 14) rfl ?_); refine Kd.R_lit (Kd.int .u8) _ 5 ?hg (N := 14) ?hd (xs := ([(a0) % 256, (a0 / 256) % 256, (a0 / 65536) % 256, (a0 / 16777216) % 256] : List Int)) (inner := [.int .u8 ((a0) % 256), .int .u8 ((a0 / 256) % 256), .int .u8 ((a0 / 65536) % 256), .int .u8 ((a0 / 16777216) % 256)]) (ok := fun _ => True) (okp := fun _ => True) ?hr ?hp (fun _ hk => hk) trivial (Below.refl _ _) (Nat.le_refl _) (by simp) ?_; (case hd => rfl); (case hg => rfl); (case hr => first | (go_simp; done) | (go_simp; rfl)); (case hp => exact (Reps.one (show Kd.M (Kd.int .u8) _ _ _ ((a0) % 256) [.int .u8 ((a0) % 256)] from rfl) (Reps.one (show Kd.M (Kd.int .u8) _ _ _ ((a0 / 256) % 256) [.int .u8 ((a0 / 256) % 256)] from rfl) (Reps.one (show Kd.M (Kd.int .u8) _ _ _ ((a0 / 65536) % 256) [.int .u8 ((a0 / 65536) % 256)] from rfl) (Reps.one (show Kd.M (Kd.int .u8) _ _ _ ((a0 / 16777216) % 256) [.int .u8 ((a0 / 16777216) % 256)] from rfl) (Reps.none _ _)))))); intro v125 w2 ho3 hb hg_ hnew_; clear hg_ hnew_; (first | rw [← Ny124.out] at ho3 | (simp only [Int.reduceToNat] at ho3; rw [← Ny124.out] at ho3)); have n0_ := q04.mk (Kd.R_lower ho3 (q0e (by repeat (first | (with_reducible first | exact HB.out | apply q02 | apply q00 | apply q01) | exact HB.out)))); have n1_ := q04.mk (q0a (by repeat (first | (with_reducible first | exact HB.out | apply q02 | apply q00 | apply q01) | exact HB.out)) hb); clear HB; have HO126 := n0_; have HB := n1_; clear n0_ n1_; clear hb ho3; have hcv4 := q14 (P := Try.prog) Try.underlying55 Try.underlying5 Try.underlying9 (Kd.own_of_R HO126.out)))
 go_ret
 exact ⟨by first | rfl | (simp [q0c, q0b] <;> rfl) | (simp [*, q0c, q0b] <;> rfl), by repeat (first | (with_reducible first | exact HB.out | apply q02 | apply q00 | apply q01) | exact HB.out)⟩
def block_whole.f (a0 : ByteArray) : Option (Int) := if 0 < (a0.size : Int) then (if 1 < (a0.size : Int) then (if 2 < (a0.size : Int) then (if 3 < (a0.size : Int) then (some (Go.bits .or .i64 (Go.bits .or .i64 (Go.bits .or .i64 (wrap64 (bt a0 0)) (wrap64 ((wrap64 (bt a0 1)) * 256))) (wrap64 ((wrap64 (bt a0 2)) * 65536))) (wrap64 ((wrap64 (bt a0 3)) * 16777216)))) else (none)) else (none)) else (none)) else (none)
set_option maxHeartbeats 8000000 in
set_option maxRecDepth 100000 in
theorem block_whole.calls (a0 : ByteArray) (r : Int) (w : World) (h : block_whole.f a0 = some r) :
  Calls Try.prog 66 #[.string a0] w fun e w' => e = .returned (.int .i64 r) ∧ q0k w w' := by
 have H : (if 0 < (a0.size : Int) then (if 1 < (a0.size : Int) then (if 2 < (a0.size : Int) then (if 3 < (a0.size : Int) then (some (Go.bits .or .i64 (Go.bits .or .i64 (Go.bits .or .i64 (wrap64 (bt a0 0)) (wrap64 ((wrap64 (bt a0 1)) * 256))) (wrap64 ((wrap64 (bt a0 2)) * 65536))) (wrap64 ((wrap64 (bt a0 3)) * 16777216)))) else (none)) else (none)) else (none)) else (none)) = some r := h
 clear h
 by_cases c2 : 0 < (a0.size : Int)
 ·rw [if_pos c2] at H
  have c2b0 : decide (0 < (a0.size : Int)) = true := decide_eq_true c2
  have c2b1 : decide (0 < a0.size) = true := decide_eq_true (by omega)
  clear c2
  by_cases c4 : 1 < (a0.size : Int)
  ·rw [if_pos c4] at H
   have c4b0 : decide (1 < (a0.size : Int)) = true := decide_eq_true c4
   have c4b1 : decide (1 < a0.size) = true := decide_eq_true (by omega)
   clear c4
   by_cases c6 : 2 < (a0.size : Int)
   ·rw [if_pos c6] at H
    have c6b0 : decide (2 < (a0.size : Int)) = true := decide_eq_true c6
    have c6b1 : decide (2 < a0.size) = true := decide_eq_true (by omega)
    clear c6
    by_cases c8 : 3 < (a0.size : Int)
    ·rw [if_pos c8] at H
     have c8b0 : decide (3 < (a0.size : Int)) = true := decide_eq_true c8
     have c8b1 : decide (3 < a0.size) = true := decide_eq_true (by omega)
     clear c8
     obtain rfl := Option.some.inj H
     have p3 : 0 ≤ (0 : Int) := (by omega)
     have q3 : 0 < a0.size := (by have : (0 : Int) < (a0.size : Int) := of_decide_eq_true (by first | (with_reducible assumption) | assumption); omega)
     have hx3 : ∀ h : 0 < a0.size, ((a0[0]'h).toNat : Int) = bt a0 0 := bt_at a0 0
     clear p3
     have qi3 : (0 < (a0.size : Int)) = True := eq_true (of_decide_eq_true (by first | (with_reducible assumption) | assumption))
     replace q3 := eq_true q3
     have p5 : 0 ≤ (1 : Int) := (by omega)
     have q5 : 1 < a0.size := (by have : (1 : Int) < (a0.size : Int) := of_decide_eq_true (by first | (with_reducible assumption) | assumption); omega)
     have hx5 : ∀ h : 1 < a0.size, ((a0[1]'h).toNat : Int) = bt a0 1 := bt_at a0 1
     clear p5
     have qi5 : (1 < (a0.size : Int)) = True := eq_true (of_decide_eq_true (by first | (with_reducible assumption) | assumption))
     replace q5 := eq_true q5
     have p7 : 0 ≤ (2 : Int) := (by omega)
     have q7 : 2 < a0.size := (by have : (2 : Int) < (a0.size : Int) := of_decide_eq_true (by first | (with_reducible assumption) | assumption); omega)
     have hx7 : ∀ h : 2 < a0.size, ((a0[2]'h).toNat : Int) = bt a0 2 := bt_at a0 2
     clear p7
     have qi7 : (2 < (a0.size : Int)) = True := eq_true (of_decide_eq_true (by first | (with_reducible assumption) | assumption))
     replace q7 := eq_true q7
     have p9 : 0 ≤ (3 : Int) := (by omega)
     have q9 : 3 < a0.size := (by have : (3 : Int) < (a0.size : Int) := of_decide_eq_true (by first | (with_reducible assumption) | assumption); omega)
     have hx9 : ∀ h : 3 < a0.size, ((a0[3]'h).toNat : Int) = bt a0 3 := bt_at a0 3
     clear p9
     have qi9 : (3 < (a0.size : Int)) = True := eq_true (of_decide_eq_true (by first | (with_reducible assumption) | assumption))
     replace q9 := eq_true q9
     go_enter Try.func66, Try.ntmps66
     go_wp2
     repeat (go_quiet (fail); try go_wp2)
     go_ret
     exact ⟨by first | rfl | (simp; done) | (simp [*]; done), by repeat (first | exact q0k.refl _ | apply q0k.step)⟩
    ·rw [if_neg c8] at H
     exact absurd H (by simp)
   ·rw [if_neg c6] at H
    exact absurd H (by simp)
  ·rw [if_neg c4] at H
   exact absurd H (by simp)
 ·rw [if_neg c2] at H
  exact absurd H (by simp)
mutual
def block_parts.j0 : Nat → ByteArray → List Int → Bool → Option (ByteArray × List Int × Bool)
 | 0, _, _, _ => none
 | k + 1, x0, x3, x15 => if x15 = true then (some ((⟨#[]⟩ : ByteArray), ([] : List Int), false)) else (if 0 ≤ (wrap64 ((x0.size : Int) - 8)) then (if (wrap64 ((x0.size : Int) - 8)) ≤ (x0.size : Int) then ((block_whole.f (x0.extract ((wrap64 ((x0.size : Int) - 8)) : Int).toNat x0.size)).bind fun t127 => (if t127 > (wrap64 (Int.tdiv (wrap64 ((x0.size : Int) - 8)) 4)) then (some ((⟨#[]⟩ : ByteArray), ([] : List Int), false)) else (block_parts.l0 k x0 x3 (wrap64 ((wrap64 ((x0.size : Int) - 8)) - (wrap64 (4 * t127)))) t127 0))) else (none)) else (none))
def block_parts.l0 : Nat → ByteArray → List Int → Int → Int → Int → Option (ByteArray × List Int × Bool)
 | 0, _, _, _, _, _ => none
 | k + 1, x0, x3, x6, x34, x35 => if x35 < x34 then (if 0 ≤ (wrap64 (x6 + (wrap64 (4 * x35)))) then (if (wrap64 (x6 + (wrap64 (4 * x35)))) ≤ (x0.size : Int) then ((block_whole.f (x0.extract ((wrap64 (x6 + (wrap64 (4 * x35)))) : Int).toNat x0.size)).bind fun t128 => (if x3.length < 17592186044416 then (block_parts.l0 k x0 (x3 ++ [t128]) x6 x34 (wrap64 (x35 + 1))) else (none))) else (none)) else (none)) else (if 0 ≤ x6 then (if x6 ≤ (x0.size : Int) then (some (x0.extract 0 (x6 : Int).toNat, x3, true)) else (none)) else (none))
end
def block_parts.f (k : Nat) (a0 : ByteArray) : Option (ByteArray × List Int × Bool) := if (a0.size : Int) < 8 then (block_parts.j0 k a0 ([] : List Int) true) else (block_parts.j0 k a0 ([] : List Int) (decide ((a0.size : Int) > 65536)))
theorem block_parts.mono_l : ∀ k, (∀ y0 y1 y2, LeO (block_parts.j0 k y0 y1 y2) (block_parts.j0 (k + 1) y0 y1 y2)) ∧ (∀ y0 y1 y2 y3 y4, LeO (block_parts.l0 k y0 y1 y2 y3 y4) (block_parts.l0 (k + 1) y0 y1 y2 y3 y4))
 | 0 => ⟨fun _ _ _ r h => by simp [block_parts.j0] at h, fun _ _ _ _ _ r h => by simp [block_parts.l0] at h⟩
 | k + 1 => by
  obtain ⟨ih0, ih1⟩ := block_parts.mono_l k
  refine ⟨?_, ?_⟩
  ·intro y0 y1 y2
   unfold block_parts.j0
   repeat' first
   | (with_reducible exact ih0 _ _ _)
   | (with_reducible exact ih1 _ _ _ _ _)
   | (with_reducible exact LeO.refl _)
   | (with_reducible exact LeO.none _)
   | (with_reducible refine LeO.ite ?_ ?_)
   | (with_reducible refine LeO.bind ?_ (fun _ => ?_))
   | exact ih0 _ _ _
   | exact ih1 _ _ _ _ _
   | exact LeO.none _
   | refine LeO.ite ?_ ?_
   | refine LeO.bind ?_ (fun _ => ?_)
  ·intro y0 y1 y2 y3 y4
   unfold block_parts.l0
   repeat' first
   | (with_reducible exact ih0 _ _ _)
   | (with_reducible exact ih1 _ _ _ _ _)
   | (with_reducible exact LeO.refl _)
   | (with_reducible exact LeO.none _)
   | (with_reducible refine LeO.ite ?_ ?_)
   | (with_reducible refine LeO.bind ?_ (fun _ => ?_))
   | exact ih0 _ _ _
   | exact ih1 _ _ _ _ _
   | exact LeO.none _
   | refine LeO.ite ?_ ?_
   | refine LeO.bind ?_ (fun _ => ?_)
theorem block_parts.mono : ∀ a0 k, LeO (block_parts.f k a0) (block_parts.f (k + 1) a0) := by
 intro a0 k
 obtain ⟨ih0, ih1⟩ := block_parts.mono_l k
 unfold block_parts.f
 repeat' first
   | (with_reducible exact ih0 _ _ _)
   | (with_reducible exact ih1 _ _ _ _ _)
   | (with_reducible exact LeO.refl _)
   | (with_reducible exact LeO.none _)
   | (with_reducible refine LeO.ite ?_ ?_)
   | (with_reducible refine LeO.bind ?_ (fun _ => ?_))
   | exact ih0 _ _ _
   | exact ih1 _ _ _ _ _
   | exact LeO.none _
   | refine LeO.ite ?_ ?_
   | refine LeO.bind ?_ (fun _ => ?_)
set_option maxHeartbeats 8000000 in
set_option maxRecDepth 100000 in
theorem block_parts.calls (k : Nat) (a0 : ByteArray) (r1 : ByteArray) (r2 : List Int) (r3 : Bool) (w : World) (h : block_parts.f k a0 = some (r1, r2, r3)) :
  Calls Try.prog 64 #[.string a0] w fun e w' => ∃ v1_ : Value, e = .returned (.tuple #[.string r1, v1_, .bool r3]) ∧ Kd.R (Kd.int .i64) 3 w' w.heap.size (fun _ => True) v1_ r2 ∧ Below w.heap.size w w' := by
 have HB := q04.mk (Below.refl w.heap.size w)
 have H : (if (a0.size : Int) < 8 then (block_parts.j0 k a0 ([] : List Int) true) else (block_parts.j0 k a0 ([] : List Int) (decide ((a0.size : Int) > 65536)))) = some (r1, r2, r3) := h
 clear h
 have HC2 := q04.mk H
 clear H
 go_enter Try.func64, Try.ntmps64
 go_upto_region 1 with (fail)
 go_cut [15] (fun v15 wc => ∃ (kq : Nat) (x15_1 : Bool), v15 = .bool x15_1 ∧ q04 (block_parts.j0 kq a0 ([] : List Int) x15_1 = some (r1, r2, r3)) ∧ q04 (kq ≤ k) ∧ q04 (Kd.R (Kd.int .i64) 3 wc w.heap.size (fun _ => True) (.slice none 0 0) ([] : List Int)) ∧ q04 (Below w.heap.size w wc))
 case first =>
  have H := HC2.out
  clear HC2
  by_cases c3 : (a0.size : Int) < 8
  ·rw [if_pos c3] at H
   have c3b0 : decide ((a0.size : Int) < 8) = true := decide_eq_true c3
   have c3b1 : decide (a0.size < 8) = true := decide_eq_true (by omega)
   clear c3
   (first | rw [c3b0] | (simp only [i64_w, i32_w]; rw [c3b0]) | skip)
   have H' := q04.mk H
   clear H
   go_wp2
   go_meet
   case rel => exact ⟨_, (true), (by first | rfl | (simp; done) | (simp [*]; done)), H', ⟨by first | omega | exact Nat.le_refl _⟩, ⟨by first | exact Kd.R_nil _ _ _ _ _ | exact Kd.N_nil _ _ _ _ _ | exact Kd.V_nil _ _ _ _ _ | exact Kd.Q_nil _ _ _ _ _ | exact Kd.S_nil _ _ _ _ _⟩, ⟨by repeat (first | (with_reducible first | exact HB.out | apply q02 | apply q00 | apply q01) | exact HB.out)⟩⟩
  ·rw [if_neg c3] at H
   have c3b0 : decide ((a0.size : Int) < 8) = false := decide_eq_false c3
   have c3b1 : decide (a0.size < 8) = false := decide_eq_false (by omega)
   clear c3
   (first | rw [c3b0] | (simp only [i64_w, i32_w]; rw [c3b0]) | skip)
   have H' := q04.mk H
   clear H
   go_wp2
   go_meet
   case rel => exact ⟨_, (decide ((a0.size : Int) > 65536)), (by first | rfl | (simp; done) | (simp [*]; done)), H', ⟨by first | omega | exact Nat.le_refl _⟩, ⟨by first | exact Kd.R_nil _ _ _ _ _ | exact Kd.N_nil _ _ _ _ _ | exact Kd.V_nil _ _ _ _ _ | exact Kd.Q_nil _ _ _ _ _ | exact Kd.S_nil _ _ _ _ _⟩, ⟨by repeat (first | (with_reducible first | exact HB.out | apply q02 | apply q00 | apply q01) | exact HB.out)⟩⟩
 case rest =>
  clear HC2
  try clear p2
  try clear c3
  try clear c3b0
  try clear c3b1
  obtain ⟨kq, x15_1, rfl, HA, HJ1, HO_3, HB⟩ := hcut
  cases kq with
  | zero => exact absurd HA.out (by simp [block_parts.j0])
  | succ kj1 =>
   have H := HA.out
   clear HA
   simp only [block_parts.j0] at H
   by_cases c4 : x15_1 = true
   ·subst c4
    have H1 : (some ((⟨#[]⟩ : ByteArray), ([] : List Int), false)) = some (r1, r2, r3) := by rw [if_pos rfl] at H; exact H
    clear H
    have H := H1
    clear H1
    simp only [Option.some.injEq, Prod.mk.injEq] at H
    obtain ⟨rfl, rfl, rfl⟩ := H
    go_wp2
    go_ret3
    exact ⟨_, by first | rfl | (simp [q0c, q0b] <;> rfl) | (simp [*, q0c, q0b] <;> rfl), by first | exact Kd.R_nil _ _ _ _ _ | exact Kd.N_nil _ _ _ _ _ | exact Kd.V_nil _ _ _ _ _ | exact Kd.Q_nil _ _ _ _ _ | exact Kd.S_nil _ _ _ _ _, by repeat (first | (with_reducible first | exact HB.out | apply q02 | apply q00 | apply q01) | exact HB.out)⟩
   ·replace c4 := Bool.eq_false_iff.mpr c4
    subst c4
    have H1 : (if 0 ≤ (wrap64 ((a0.size : Int) - 8)) then (if (wrap64 ((a0.size : Int) - 8)) ≤ (a0.size : Int) then ((block_whole.f (a0.extract ((wrap64 ((a0.size : Int) - 8)) : Int).toNat a0.size)).bind fun t127 => (if t127 > (wrap64 (Int.tdiv (wrap64 ((a0.size : Int) - 8)) 4)) then (some ((⟨#[]⟩ : ByteArray), ([] : List Int), false)) else (block_parts.l0 kj1 a0 ([] : List Int) (wrap64 ((wrap64 ((a0.size : Int) - 8)) - (wrap64 (4 * t127)))) t127 0))) else (none)) else (none)) = some (r1, r2, r3) := by rw [if_neg (show ¬ (false = true) by decide)] at H; exact H
    clear H
    have H := H1
    clear H1
    obtain ⟨ji5, hji5⟩ : ∃ j_ : Int, (wrap64 ((a0.size : Int) - 8)) = j_ := ⟨_, rfl⟩
    replace H : (if 0 ≤ (ji5) then (if (ji5) ≤ (a0.size : Int) then ((block_whole.f (a0.extract ((ji5) : Int).toNat a0.size)).bind fun t127 => (if t127 > (wrap64 (Int.tdiv (ji5) 4)) then (some ((⟨#[]⟩ : ByteArray), ([] : List Int), false)) else (block_parts.l0 kj1 a0 ([] : List Int) (wrap64 ((ji5) - (wrap64 (4 * t127)))) t127 0))) else (none)) else (none)) = some (r1, r2, r3) := by first | (rw [hji5] at H; exact H) | (simp only [hji5] at H ⊢; exact H)
    have hji5w : (IntKind.i64.wrap ((a0.size : Int) - 8)) = ji5 := (i64_w _).trans hji5
    by_cases c6 : 0 ≤ (ji5)
    ·rw [if_pos c6] at H
     have c6b0 := eq_true c6
     have c6b1 : decide (0 ≤ (ji5)) = true := decide_eq_true c6
     clear c6
     by_cases c7 : (ji5) ≤ (a0.size : Int)
     ·rw [if_pos c7] at H
      have c7b0 := eq_true c7
      have c7b1 : decide ((ji5) ≤ (a0.size : Int)) = true := decide_eq_true c7
      clear c7
      replace H := Option.bind_eq_some_iff.mp H
      obtain ⟨t127, A80, H⟩ := H
      replace H : (if t127 > (wrap64 (Int.tdiv (ji5) 4)) then (some ((⟨#[]⟩ : ByteArray), ([] : List Int), false)) else (block_parts.l0 kj1 a0 ([] : List Int) (wrap64 ((ji5) - (wrap64 (4 * t127)))) t127 0)) = some (r1, r2, r3) := H
      have A8 := q04.mk A80
      clear A80
      by_cases c9 : t127 > (wrap64 (Int.tdiv (ji5) 4))
      ·rw [if_pos c9] at H
       have c9b0 : decide ((wrap64 (Int.tdiv (ji5) 4)) < t127) = true := decide_eq_true c9
       clear c9
       simp only [Option.some.injEq, Prod.mk.injEq] at H
       obtain ⟨rfl, rfl, rfl⟩ := H
       go_wp2_with (first | ((with_reducible refine q0h (f := 66) rfl ?_); refine q0s (some 21) rfl rfl Try.func66 (by kernel_rfl) rfl #[.string (a0.extract ((ji5) : Int).toNat a0.size)] rfl (by (try simp only [List.map_toArray, List.map_cons, List.map_nil]); first | done | (simp only [hji5]; rfl) | rfl | (simp only [List.length_drop, List.length_take]; rfl)) ?_; (with_reducible refine (block_whole.calls (a0.extract ((ji5) : Int).toNat a0.size) t127 _ A8.out).mono ?_); rintro e w' ⟨rfl, ⟨nd, rfl⟩⟩; refine ⟨_, rfl, ?_⟩))
       go_ret3
       exact ⟨_, by first | rfl | (simp [q0c, q0b] <;> rfl) | (simp only [← hji5]; first | rfl | (simp [q0c, q0b] <;> rfl)) | (simp [*, q0c, q0b] <;> rfl), by first | exact Kd.R_nil _ _ _ _ _ | exact Kd.N_nil _ _ _ _ _ | exact Kd.V_nil _ _ _ _ _ | exact Kd.Q_nil _ _ _ _ _ | exact Kd.S_nil _ _ _ _ _, by repeat (first | (with_reducible first | exact HB.out | apply q02 | apply q00 | apply q01) | exact HB.out)⟩
      ·rw [if_neg c9] at H
       have c9b0 : decide ((wrap64 (Int.tdiv (ji5) 4)) < t127) = false := decide_eq_false c9
       clear c9
       have H' := q04.mk H
       clear H
       go_wp2_with (first | ((with_reducible refine q0h (f := 66) rfl ?_); refine q0s (some 21) rfl rfl Try.func66 (by kernel_rfl) rfl #[.string (a0.extract ((ji5) : Int).toNat a0.size)] rfl (by (try simp only [List.map_toArray, List.map_cons, List.map_nil]); first | done | (simp only [hji5]; rfl) | rfl | (simp only [List.length_drop, List.length_take]; rfl)) ?_; (with_reducible refine (block_whole.calls (a0.extract ((ji5) : Int).toNat a0.size) t127 _ A8.out).mono ?_); rintro e w' ⟨rfl, ⟨nd, rfl⟩⟩; refine ⟨_, rfl, ?_⟩))
       go_loopg [3, 35] kj1 (fun kq v3 v35 w' => ∃ (x3_2 : List Int) (x35_2 : Int), v35 = .int .i64 x35_2 ∧ q04 (block_parts.l0 kq a0 x3_2 (wrap64 ((ji5) - (wrap64 (4 * t127)))) t127 x35_2 = some (r1, r2, r3)) ∧ q04 (kq ≤ kj1) ∧ q04 (Kd.R (Kd.int .i64) 3 w' w.heap.size (fun _ => True) v3 x3_2) ∧ q04 (Below w.heap.size w w'))
       case atStart => exact ⟨(([] : List Int)), (0), (by first | rfl | (simp; done) | (simp [*]; done)), H', ⟨Nat.le_refl _⟩, ⟨by (with_reducible repeat (first | apply Kd.R_alloc | apply Kd.R_drewN | apply Kd.R_drew)); exact HO_3.out⟩, ⟨by repeat (first | (with_reducible first | exact HB.out | apply q02 | apply q00 | apply q01) | exact HB.out)⟩⟩
       case round =>
        clear H'
        try clear p2
        try clear c3
        try clear c3b0
        try clear c3b1
        try clear c4
        try clear c6
        try clear c6b0
        try clear c6b1
        try clear p6
        try clear c7
        try clear c7b0
        try clear c7b1
        try clear c9
        try clear c9b0
        try clear p2
        obtain ⟨x3_2, x35_2, rfl, HA, HK2, HO_3, HB⟩ := hrel
        cases gk with
        | zero => exact absurd HA.out (by simp [block_parts.l0])
        | succ k2 =>
         have H := HA.out
         clear HA
         simp only [block_parts.l0] at H
         by_cases c10 : x35_2 < t127
         ·rw [if_pos c10] at H
          have c10b0 : decide (x35_2 < t127) = true := decide_eq_true c10
          clear c10
          obtain ⟨ji11, hji11⟩ : ∃ j_ : Int, (wrap64 ((wrap64 ((ji5) - (wrap64 (4 * t127)))) + (wrap64 (4 * x35_2)))) = j_ := ⟨_, rfl⟩
          replace H : (if 0 ≤ (ji11) then (if (ji11) ≤ (a0.size : Int) then ((block_whole.f (a0.extract ((ji11) : Int).toNat a0.size)).bind fun t128 => (if x3_2.length < 17592186044416 then (block_parts.l0 k2 a0 (x3_2 ++ [t128]) (wrap64 ((ji5) - (wrap64 (4 * t127)))) t127 (wrap64 (x35_2 + 1))) else (none))) else (none)) else (none)) = some (r1, r2, r3) := by first | (rw [hji11] at H; exact H) | (simp only [hji11] at H ⊢; exact H)
          have hji11w : (IntKind.i64.wrap ((wrap64 ((ji5) - (wrap64 (4 * t127)))) + (wrap64 (4 * x35_2)))) = ji11 := (i64_w _).trans hji11
          by_cases c12 : 0 ≤ (ji11)
          ·rw [if_pos c12] at H
           have c12b0 := eq_true c12
           have c12b1 : decide (0 ≤ (ji11)) = true := decide_eq_true c12
           clear c12
           by_cases c13 : (ji11) ≤ (a0.size : Int)
           ·rw [if_pos c13] at H
            have c13b0 := eq_true c13
            have c13b1 : decide ((ji11) ≤ (a0.size : Int)) = true := decide_eq_true c13
            clear c13
            replace H := Option.bind_eq_some_iff.mp H
            obtain ⟨t128, A140, H⟩ := H
            replace H : (if x3_2.length < 17592186044416 then (block_parts.l0 k2 a0 (x3_2 ++ [t128]) (wrap64 ((ji5) - (wrap64 (4 * t127)))) t127 (wrap64 (x35_2 + 1))) else (none)) = some (r1, r2, r3) := H
            have A14 := q04.mk A140
            clear A140
            by_cases c15 : x3_2.length < 17592186044416
            ·rw [if_pos c15] at H
             have LMc15 := q04.mk c15
             clear c15
             obtain ⟨y129, hy129⟩ : ∃ y_ : List Int, y_ = (x3_2 ++ [t128]) := ⟨_, rfl⟩
             replace H : (block_parts.l0 k2 a0 y129 (wrap64 ((ji5) - (wrap64 (4 * t127)))) t127 (wrap64 (x35_2 + 1))) = some (r1, r2, r3) := by first | (rw [hy129]; with_reducible exact H) | (have H2_ := (Option.bind_some _ _).symm.trans H; rw [hy129]; with_reducible exact H2_) | (have H2_ := (Option.bind_some _ _).symm.trans H; with_reducible exact H2_) | with_reducible exact H | (rw [hy129]; exact H) | exact H
             have Ny129 := q04.mk hy129
             clear hy129
             have H' := q04.mk H
             clear H
             go_wp2_with (first | ((with_reducible refine q0h (f := 66) rfl ?_); refine q0s (some 45) rfl rfl Try.func66 (by kernel_rfl) rfl #[.string (a0.extract ((ji11) : Int).toNat a0.size)] rfl (by (try simp only [List.map_toArray, List.map_cons, List.map_nil]); first | done | (simp only [hji11]; rfl) | rfl | (simp only [List.length_drop, List.length_take]; rfl)) ?_; (with_reducible refine (block_whole.calls (a0.extract ((ji11) : Int).toNat a0.size) t128 _ A14.out).mono ?_); rintro e w' ⟨rfl, ⟨nd, rfl⟩⟩; refine ⟨_, rfl, ?_⟩) | ((with_reducible refine q1k (b := .append) (xs := #[.tmp 38, .tmp 46]) rfl ?_); (try (refine q0v (by rfl) ?_; dsimp only)); at_builtin; refine Kd.R_append (Kd.int .i64) (w0 := w) w.heap.size rfl (.tmp 38) (.tmp 46) 53 3 (.int .i64 0) 8 rfl Try.underlying53 info3 rfl (by decide) (by omega) u3 x3_2 t128 [.int .i64 t128] (fun _ => True) (fun _ => False) rfl rfl ?aP (fun _ hk => hk.elim) ?aF ?aO ?aB ?aS ?aL ?_; (case aP => exact rfl); (case aB => exact (by repeat (first | (with_reducible first | exact HB.out | apply q02 | apply q00 | apply q01) | exact HB.out))); (case aF => exact (fun _ _ => trivial)); (case aO => exact (by (with_reducible repeat (first | apply Kd.R_alloc | apply Kd.R_drewN | apply Kd.R_drew)); exact HO_3.out)); (case aS => exact (q0e (by repeat (first | (with_reducible first | exact HB.out | apply q02 | apply q00 | apply q01) | exact HB.out)))); (case aL => have := LMc15.out; omega); intro v130 w16 ho hb hg hat; rw [← Ny129.out] at ho; have n0_ := q04.mk (hb); have n1_ := q04.mk (ho); clear HB; clear HO_3; have HB := n0_; have HO131 := n1_; clear n0_ n1_; clear ho hb hg hat))
             go_roundg k2
             case measure => have := HJ1.out; have := HK2.out; omega
             case rel => exact ⟨(y129), (wrap64 (x35_2 + 1)), (by first | rfl | (simp; done) | (simp [*]; done)), H', ⟨by have := HJ1.out; have := HK2.out; omega⟩, ⟨by (with_reducible repeat (first | apply Kd.R_alloc | apply Kd.R_drewN | apply Kd.R_drew)); exact HO131.out⟩, ⟨by repeat (first | (with_reducible first | exact HB.out | apply q02 | apply q00 | apply q01) | exact HB.out)⟩⟩
            ·rw [if_neg c15] at H
             exact absurd H (by simp)
           ·rw [if_neg c13] at H
            exact absurd H (by simp)
          ·rw [if_neg c12] at H
           exact absurd H (by simp)
         ·rw [if_neg c10] at H
          have c10b0 : decide (x35_2 < t127) = false := decide_eq_false c10
          clear c10
          obtain ⟨ji17, hji17⟩ : ∃ j_ : Int, (wrap64 ((ji5) - (wrap64 (4 * t127)))) = j_ := ⟨_, rfl⟩
          replace H : (if 0 ≤ (ji17) then (if (ji17) ≤ (a0.size : Int) then (some (a0.extract 0 ((ji17) : Int).toNat, x3_2, true)) else (none)) else (none)) = some (r1, r2, r3) := by first | (rw [hji17] at H; exact H) | (simp only [hji17] at H ⊢; exact H)
          have hji17w : (IntKind.i64.wrap ((ji5) - (wrap64 (4 * t127)))) = ji17 := (i64_w _).trans hji17
          by_cases c18 : 0 ≤ (ji17)
          ·rw [if_pos c18] at H
           have c18b0 := eq_true c18
           have c18b1 : decide (0 ≤ (ji17)) = true := decide_eq_true c18
           clear c18
           by_cases c19 : (ji17) ≤ (a0.size : Int)
           ·rw [if_pos c19] at H
            have c19b0 := eq_true c19
            have c19b1 : decide ((ji17) ≤ (a0.size : Int)) = true := decide_eq_true c19
            clear c19
            simp only [Option.some.injEq, Prod.mk.injEq] at H
            obtain ⟨rfl, rfl, rfl⟩ := H
            go_wp2
            go_ret3
            exact ⟨_, by first | rfl | (simp [q0c, q0b] <;> rfl) | (simp only [← hji5, ← hji17]; first | rfl | (simp [q0c, q0b] <;> rfl)) | (simp [*, q0c, q0b] <;> rfl), by (with_reducible repeat (first | apply Kd.R_alloc | apply Kd.R_drewN | apply Kd.R_drew)); exact HO_3.out, by repeat (first | (with_reducible first | exact HB.out | apply q02 | apply q00 | apply q01) | exact HB.out)⟩
           ·rw [if_neg c19] at H
            exact absurd H (by simp)
          ·rw [if_neg c18] at H
           exact absurd H (by simp)
     ·rw [if_neg c7] at H
      exact absurd H (by simp)
    ·rw [if_neg c6] at H
     exact absurd H (by simp)
end Go.Proofs.Ytaigmemmgjlhgaa.Print
-- Print3
namespace Go.Proofs.Ytaigmemmgjlhgaa.Print
open Go.RowKit Go.Proofs.YtaigmemmgjlhgaaW.PrintWords Go.Proofs.YtaigmemmgjlhgaaW.PrintLast Go.Proofs.YtaigmemmgjlhgaaW.PrintMore
attribute [local go_sem] q1d q1b q1t q1s q19 q17 q1c q1a
set_option linter.unusedVariables false
set_option linter.unusedSimpArgs false
def block_common.l0 : Nat → ByteArray → ByteArray → Int → Option (Int)
 | 0, _, _, _ => none
 | k + 1, x0, x1, x5 => if x5 < (x0.size : Int) then (if x5 < (x1.size : Int) then (if 0 ≤ x5 then (if (bt x0 x5) = (bt x1 x5) then (block_common.l0 k x0 x1 (wrap64 (x5 + 1))) else (some x5)) else (none)) else (some x5)) else (some x5)
def block_common.f (k : Nat) (a0 : ByteArray) (a1 : ByteArray) : Option (Int) := block_common.l0 k a0 a1 0
theorem block_common.mono_l : ∀ k, (∀ y0 y1 y2, LeO (block_common.l0 k y0 y1 y2) (block_common.l0 (k + 1) y0 y1 y2))
 | 0 => fun _ _ _ r h => by simp [block_common.l0] at h
 | k + 1 => by
  have ih0 := block_common.mono_l k
  ·intro y0 y1 y2
   unfold block_common.l0
   repeat' first
   | (with_reducible exact ih0 _ _ _)
   | (with_reducible exact LeO.refl _)
   | (with_reducible exact LeO.none _)
   | (with_reducible refine LeO.ite ?_ ?_)
   | (with_reducible refine LeO.bind ?_ (fun _ => ?_))
   | exact ih0 _ _ _
   | exact LeO.none _
   | refine LeO.ite ?_ ?_
   | refine LeO.bind ?_ (fun _ => ?_)
theorem block_common.mono : ∀ a0 a1 k, LeO (block_common.f k a0 a1) (block_common.f (k + 1) a0 a1) := by
 intro a0 a1 k
 have ih0 := block_common.mono_l k
 unfold block_common.f
 repeat' first
   | (with_reducible exact ih0 _ _ _)
   | (with_reducible exact LeO.refl _)
   | (with_reducible exact LeO.none _)
   | (with_reducible refine LeO.ite ?_ ?_)
   | (with_reducible refine LeO.bind ?_ (fun _ => ?_))
   | exact ih0 _ _ _
   | exact LeO.none _
   | refine LeO.ite ?_ ?_
   | refine LeO.bind ?_ (fun _ => ?_)
set_option maxHeartbeats 8000000 in
set_option maxRecDepth 100000 in
theorem block_common.calls (k : Nat) (a0 : ByteArray) (a1 : ByteArray) (r : Int) (w : World) (h : block_common.f k a0 a1 = some r) :
  Calls Try.prog 81 #[.string a0, .string a1] w fun e w' => e = .returned (.int .i64 r) ∧ q0k w w' := by
 have H : (block_common.l0 k a0 a1 0) = some r := h
 clear h
 have H' := q04.mk H
 clear H
 go_enter Try.func81, Try.ntmps81
 go_wp2
 repeat (go_quiet (fail); try go_wp2)
 go_loopg [5] k (fun kq v5 w' => ∃ (x5_1 : Int), v5 = .int .i64 x5_1 ∧ q04 (block_common.l0 kq a0 a1 x5_1 = some r) ∧ q04 (kq ≤ k) ∧ q0k w w')
 case atStart => exact ⟨(0), (by first | rfl | (simp; done) | (simp [*]; done)), H', ⟨Nat.le_refl _⟩, by repeat (first | exact q0k.refl _ | apply q0k.step)⟩
 case round =>
  clear H'
  try clear p2
  obtain ⟨x5_1, rfl, HA, HK1, ⟨m1, rfl⟩⟩ := hrel
  cases gk with
  | zero => exact absurd HA.out (by simp [block_common.l0])
  | succ k1 =>
   have H := HA.out
   clear HA
   simp only [block_common.l0] at H
   by_cases c3 : x5_1 < (a0.size : Int)
   ·rw [if_pos c3] at H
    have c3b0 : decide (x5_1 < (a0.size : Int)) = true := decide_eq_true c3
    clear c3
    by_cases c4 : x5_1 < (a1.size : Int)
    ·rw [if_pos c4] at H
     have c4b0 : decide (x5_1 < (a1.size : Int)) = true := decide_eq_true c4
     clear c4
     by_cases c5 : 0 ≤ x5_1
     ·rw [if_pos c5] at H
      have c5b0 : decide (0 ≤ x5_1) = true := decide_eq_true c5
      clear c5
      by_cases c8 : (bt a0 x5_1) = (bt a1 x5_1)
      ·rw [if_pos c8] at H
       have c8b0 : ((bt a0 x5_1) == (bt a1 x5_1)) = true := beq_iff_eq.mpr c8
       have c8b1 : ((bt a0 x5_1) != (bt a1 x5_1)) = false := bne_eq_false_iff_eq.mpr c8
       clear c8
       have H' := q04.mk H
       clear H
       have p6 : 0 ≤ (x5_1 : Int) := of_decide_eq_true (by first | (with_reducible assumption) | assumption)
       have q6 : x5_1 < (a0.size : Int) := of_decide_eq_true (by first | (with_reducible assumption) | assumption)
       have hx6 := bt_at a0 x5_1
       replace p6 := eq_true p6
       replace q6 := eq_true q6
       have p7 : 0 ≤ (x5_1 : Int) := of_decide_eq_true (by first | (with_reducible assumption) | assumption)
       have q7 : x5_1 < (a1.size : Int) := of_decide_eq_true (by first | (with_reducible assumption) | assumption)
       have hx7 := bt_at a1 x5_1
       replace p7 := eq_true p7
       replace q7 := eq_true q7
       go_wp2
       repeat (go_quiet (fail); try go_wp2)
       go_roundg k1
       case measure => have := HK1.out; omega
       case rel => exact ⟨(wrap64 (x5_1 + 1)), (by first | rfl | (simp; done) | (simp [*]; done)), H', ⟨by have := HK1.out; omega⟩, by repeat (first | exact q0k.refl _ | apply q0k.step)⟩
      ·rw [if_neg c8] at H
       have c8b0 : ((bt a0 x5_1) == (bt a1 x5_1)) = false := beq_eq_false_iff_ne.mpr c8
       have c8b1 : ((bt a0 x5_1) != (bt a1 x5_1)) = true := bne_iff_ne.mpr c8
       obtain rfl := Option.some.inj H
       have p6 : 0 ≤ (x5_1 : Int) := of_decide_eq_true (by first | (with_reducible assumption) | assumption)
       have q6 : x5_1 < (a0.size : Int) := of_decide_eq_true (by first | (with_reducible assumption) | assumption)
       have hx6 := bt_at a0 x5_1
       replace p6 := eq_true p6
       replace q6 := eq_true q6
       have p7 : 0 ≤ (x5_1 : Int) := of_decide_eq_true (by first | (with_reducible assumption) | assumption)
       have q7 : x5_1 < (a1.size : Int) := of_decide_eq_true (by first | (with_reducible assumption) | assumption)
       have hx7 := bt_at a1 x5_1
       replace p7 := eq_true p7
       replace q7 := eq_true q7
       go_wp2
       repeat (go_quiet (fail); try go_wp2)
       go_ret
       exact ⟨by first | rfl | (simp; done) | (simp [*]; done), by repeat (first | exact q0k.refl _ | apply q0k.step)⟩
     ·rw [if_neg c5] at H
      exact absurd H (by simp)
    ·rw [if_neg c4] at H
     have c4b0 : decide (x5_1 < (a1.size : Int)) = false := decide_eq_false c4
     clear c4
     obtain rfl := Option.some.inj H
     go_wp2
     repeat (go_quiet (fail); try go_wp2)
     go_ret
     exact ⟨by first | rfl | (simp; done) | (simp [*]; done), by repeat (first | exact q0k.refl _ | apply q0k.step)⟩
   ·rw [if_neg c3] at H
    have c3b0 : decide (x5_1 < (a0.size : Int)) = false := decide_eq_false c3
    clear c3
    obtain rfl := Option.some.inj H
    go_wp2
    repeat (go_quiet (fail); try go_wp2)
    go_ret
    exact ⟨by first | rfl | (simp; done) | (simp [*]; done), by repeat (first | exact q0k.refl _ | apply q0k.step)⟩
end Go.Proofs.Ytaigmemmgjlhgaa.Print
-- BlockC
namespace Go.Proofs.Ytaigmemmgjlhgaa.Block
open Go.RowKit Aid Txt Print Go.Proofs.YtaigmemmgjlhgaaW.PrintWords
theorem common_ev (a b : ByteArray) (ha : a.size ≤ 9223372036854775806) (d : Nat) : ∀ i : Nat, i ≤ a.size → i ≤ b.size → (L a).length - i ≤ d →
  Ev (fun k => block_common.l0 k a b (i : Int)) ((i + PBlock.common ((L a).drop i) ((L b).drop i) : Nat) : Int) := by
 induction d with
 | zero =>
  intro i hi hb hd
  rw [q0g] at hd
  refine Ev.step (f := fun _ => some (i : Int)) (fun k => ?_) ?_
  ·simp only [block_common.l0]
   rw [if_neg (by omega)]
  ·rw [show (L a).drop i = [] from List.drop_eq_nil_of_le (by rw [q0g]; omega)]
   exact Ev.now _
 | succ d ih =>
  intro i hi hb hd
  rw [q0g] at hd
  by_cases h1 : i < a.size
  ·by_cases h2 : i < b.size
   ·have e1 : (L a).drop i = (L a)[i]'(by rw [q0g]; omega) :: (L a).drop (i + 1) := List.drop_eq_getElem_cons _
    have e2 : (L b).drop i = (L b)[i]'(by rw [q0g]; omega) :: (L b).drop (i + 1) := List.drop_eq_getElem_cons _
    have b1 : bt a (i : Int) = ((L a)[i]'(by rw [q0g]; omega)).toNat := bt_get a (by omega) (by omega)
    have b2 : bt b (i : Int) = ((L b)[i]'(by rw [q0g]; omega)).toNat := bt_get b (by omega) (by omega)
    by_cases h3 : (L a)[i]'(by rw [q0g]; omega) = (L b)[i]'(by rw [q0g]; omega)
    ·have e := ih (i + 1) (by omega) (by omega) (by rw [q0g]; omega)
     rw [e1, e2, PBlock.common, if_pos h3]
     refine Ev.step (fun k => ?_) (by rw [show i + (PBlock.common ((L a).drop (i + 1)) ((L b).drop (i + 1)) + 1) = i + 1 + PBlock.common ((L a).drop (i + 1)) ((L b).drop (i + 1)) by omega]; exact e)
     simp only [block_common.l0]
     rw [if_pos (by omega), if_pos (by omega), if_pos (by omega), if_pos (by rw [b1, b2, h3]), q0u (by omega) (by omega)]
     rfl
    ·refine Ev.step (f := fun _ => some (i : Int)) (fun k => ?_) ?_
     ·simp only [block_common.l0]
      rw [if_pos (by omega), if_pos (by omega), if_pos (by omega), if_neg (by rw [b1, b2]; exact fun e => h3 (UInt8.toNat_inj.mp (by omega)))]
     ·rw [e1, e2, PBlock.common, if_neg h3]
      exact Ev.now _
   ·refine Ev.step (f := fun _ => some (i : Int)) (fun k => ?_) ?_
    ·simp only [block_common.l0]
     rw [if_pos (by omega), if_neg (by omega)]
    ·rw [show (L b).drop i = [] from List.drop_eq_nil_of_le (by rw [q0g]; omega)]
     have : PBlock.common ((L a).drop i) [] = 0 := by cases (L a).drop i <;> rfl
     rw [this]
     exact Ev.now _
  ·refine Ev.step (f := fun _ => some (i : Int)) (fun k => ?_) ?_
   ·simp only [block_common.l0]
    rw [if_neg (by omega)]
   ·rw [show (L a).drop i = [] from List.drop_eq_nil_of_le (by rw [q0g]; omega)]
    exact Ev.now _
theorem common_any (a b : ByteArray) (ha : a.size ≤ 9223372036854775806) (w : World) : Calls Try.prog 81 #[.string a, .string b] w fun e w' => e = .returned (.int .i64 (PBlock.common (L a) (L b) : Nat)) ∧ q0k w w' := by
 have e := common_ev a b ha _ 0 (by omega) (by omega) (Nat.le_refl _)
 obtain ⟨k, hk⟩ := e.rounds
 have := block_common.calls k a b _ w hk
 simp only [List.drop_zero, Nat.zero_add] at this
 exact this
theorem putUint_any (x : Int) (h0 : 0 ≤ x) (h1 : x < 18446744073709551616) (w : World) : Calls Try.prog 36 #[.int .u64 x] w fun e w' => e = .returned (.string (B (PCode.putUint x.toNat))) ∧ Below w.heap.size w w' := by
 obtain ⟨n, rfl⟩ := Int.eq_ofNat_of_zero_le h0
 obtain ⟨k, hk⟩ := (code_put n (by omega)).rounds
 exact code_PutUint.calls k (n : Int) _ w hk
theorem putField_any (x : ByteArray) (h : x.size ≤ 4611686018427387904) (w : World) : Calls Try.prog 35 #[.string x] w fun e w' => e = .returned (.string (B (PCode.putField (L x)))) ∧ Below w.heap.size w w' := by
 obtain ⟨k, hk⟩ := (code_putField x h).rounds
 exact code_PutField.calls k x _ w hk
end Go.Proofs.Ytaigmemmgjlhgaa.Block
-- Print4
namespace Go.Proofs.Ytaigmemmgjlhgaa.Print
open Go.RowKit Go.Proofs.YtaigmemmgjlhgaaW.PrintWords Go.Proofs.YtaigmemmgjlhgaaW.PrintLast Go.Proofs.YtaigmemmgjlhgaaW.PrintMore
attribute [local go_sem] q1d q1b q1t q1s q19 q17 q1c q1a
set_option linter.unusedVariables false
set_option linter.unusedSimpArgs false
mutual
def block_Check.j0 : Nat → Bool → ByteArray → Int → Int → ByteArray → Option (Int)
 | 0, _, _, _, _, _ => none
 | k + 1, x3, x119000, x119001, x119002, x119003 => if x3 = true then (block_Check.j2 k x3 x119000 x119001 x119002 x119003) else (if x119000.toList = ([] : List UInt8) then (block_Check.j2 k (x119000.toList == ([] : List UInt8)) x119000 x119001 x119002 x119003) else (if x119002 = 2 then (block_Check.j1 k (x119003.toList != ([] : List UInt8)) x119000 x119001 x119002 x119003) else (block_Check.j1 k false x119000 x119001 x119002 x119003)))
def block_Check.j2 : Nat → Bool → ByteArray → Int → Int → ByteArray → Option (Int)
 | 0, _, _, _, _, _ => none
 | k + 1, x3, x119000, x119001, x119002, x119003 => if x3 = true then (some 2) else (if (x119000.size : Int) > 520 then (some 3) else (if (x119003.size : Int) > 2048 then (some 3) else (some 0)))
def block_Check.j1 : Nat → Bool → ByteArray → Int → Int → ByteArray → Option (Int)
 | 0, _, _, _, _, _ => none
 | k + 1, x3, x119000, x119001, x119002, x119003 => if x3 = true then (block_Check.j2 k x3 x119000 x119001 x119002 x119003) else (if x119001 < 1 then (block_Check.j2 k (decide (x119001 < 1)) x119000 x119001 x119002 x119003) else (block_Check.j2 k (decide (x119001 ≥ 72057594037927936)) x119000 x119001 x119002 x119003))
end
def block_Check.f (k : Nat) (a0_0 : ByteArray) (a0_1 : Int) (a0_2 : Int) (a0_3 : ByteArray) : Option (Int) := if a0_2 = 1 then (block_Check.j0 k false a0_0 a0_1 a0_2 a0_3) else (block_Check.j0 k (a0_2 != 2) a0_0 a0_1 a0_2 a0_3)
theorem block_Check.mono_l : ∀ k, (∀ y0 y1 y2 y3 y4, LeO (block_Check.j0 k y0 y1 y2 y3 y4) (block_Check.j0 (k + 1) y0 y1 y2 y3 y4)) ∧ (∀ y0 y1 y2 y3 y4, LeO (block_Check.j2 k y0 y1 y2 y3 y4) (block_Check.j2 (k + 1) y0 y1 y2 y3 y4)) ∧ (∀ y0 y1 y2 y3 y4, LeO (block_Check.j1 k y0 y1 y2 y3 y4) (block_Check.j1 (k + 1) y0 y1 y2 y3 y4))
 | 0 => ⟨fun _ _ _ _ _ r h => by simp [block_Check.j0] at h, fun _ _ _ _ _ r h => by simp [block_Check.j2] at h, fun _ _ _ _ _ r h => by simp [block_Check.j1] at h⟩
 | k + 1 => by
  obtain ⟨ih0, ih1, ih2⟩ := block_Check.mono_l k
  refine ⟨?_, ?_, ?_⟩
  ·intro y0 y1 y2 y3 y4
   unfold block_Check.j0
   repeat' first
   | (with_reducible exact ih0 _ _ _ _ _)
   | (with_reducible exact ih1 _ _ _ _ _)
   | (with_reducible exact ih2 _ _ _ _ _)
   | (with_reducible exact LeO.refl _)
   | (with_reducible exact LeO.none _)
   | (with_reducible refine LeO.ite ?_ ?_)
   | (with_reducible refine LeO.bind ?_ (fun _ => ?_))
   | exact ih0 _ _ _ _ _
   | exact ih1 _ _ _ _ _
   | exact ih2 _ _ _ _ _
   | exact LeO.none _
   | refine LeO.ite ?_ ?_
   | refine LeO.bind ?_ (fun _ => ?_)
  ·intro y0 y1 y2 y3 y4
   unfold block_Check.j2
   repeat' first
   | (with_reducible exact ih0 _ _ _ _ _)
   | (with_reducible exact ih1 _ _ _ _ _)
   | (with_reducible exact ih2 _ _ _ _ _)
   | (with_reducible exact LeO.refl _)
   | (with_reducible exact LeO.none _)
   | (with_reducible refine LeO.ite ?_ ?_)
   | (with_reducible refine LeO.bind ?_ (fun _ => ?_))
   | exact ih0 _ _ _ _ _
   | exact ih1 _ _ _ _ _
   | exact ih2 _ _ _ _ _
   | exact LeO.none _
   | refine LeO.ite ?_ ?_
   | refine LeO.bind ?_ (fun _ => ?_)
  ·intro y0 y1 y2 y3 y4
   unfold block_Check.j1
   repeat' first
   | (with_reducible exact ih0 _ _ _ _ _)
   | (with_reducible exact ih1 _ _ _ _ _)
   | (with_reducible exact ih2 _ _ _ _ _)
   | (with_reducible exact LeO.refl _)
   | (with_reducible exact LeO.none _)
   | (with_reducible refine LeO.ite ?_ ?_)
   | (with_reducible refine LeO.bind ?_ (fun _ => ?_))
   | exact ih0 _ _ _ _ _
   | exact ih1 _ _ _ _ _
   | exact ih2 _ _ _ _ _
   | exact LeO.none _
   | refine LeO.ite ?_ ?_
   | refine LeO.bind ?_ (fun _ => ?_)
theorem block_Check.mono : ∀ a0 a1 a2 a3 k, LeO (block_Check.f k a0 a1 a2 a3) (block_Check.f (k + 1) a0 a1 a2 a3) := by
 intro a0 a1 a2 a3 k
 obtain ⟨ih0, ih1, ih2⟩ := block_Check.mono_l k
 unfold block_Check.f
 repeat' first
   | (with_reducible exact ih0 _ _ _ _ _)
   | (with_reducible exact ih1 _ _ _ _ _)
   | (with_reducible exact ih2 _ _ _ _ _)
   | (with_reducible exact LeO.refl _)
   | (with_reducible exact LeO.none _)
   | (with_reducible refine LeO.ite ?_ ?_)
   | (with_reducible refine LeO.bind ?_ (fun _ => ?_))
   | exact ih0 _ _ _ _ _
   | exact ih1 _ _ _ _ _
   | exact ih2 _ _ _ _ _
   | exact LeO.none _
   | refine LeO.ite ?_ ?_
   | refine LeO.bind ?_ (fun _ => ?_)
set_option maxHeartbeats 8000000 in
set_option maxRecDepth 100000 in
theorem block_Check.calls (k : Nat) (a0_0 : ByteArray) (a0_1 : Int) (a0_2 : Int) (a0_3 : ByteArray) (r : Int) (w : World) (h : block_Check.f k a0_0 a0_1 a0_2 a0_3 = some r) :
  Calls Try.prog 56 #[.agg #[.string a0_0, .int .u64 a0_1, .int .i64 a0_2, .string a0_3]] w fun e w' => e = .returned (.int .i64 r) ∧ Below w.heap.size w w' := by
 have hu28 := Try.underlying28
 have HB := q04.mk (Below.refl w.heap.size w)
 have H : (if a0_2 = 1 then (block_Check.j0 k false a0_0 a0_1 a0_2 a0_3) else (block_Check.j0 k (a0_2 != 2) a0_0 a0_1 a0_2 a0_3)) = some r := h
 clear h
 have HC2 := q04.mk H
 clear H
 go_enter Try.func56, Try.ntmps56
 go_upto_region 1 with (first | ((with_reducible refine q0q (N := 1) rfl ?_); (try (refine q0v (by rfl) ?_; dsimp only)); refine q0r ?hg (N := 1) ?hd (cs := #[.string a0_0, .int .u64 a0_1, .int .i64 a0_2, .string a0_3]) (t := 28) ?hr ?_; (case hd => rfl); (case hg => rfl); (case hr => first | (go_simp; done) | (go_simp; rfl)); intro gb118 hg w3 hbox hb; have n0_ := q04.mk (q0a (by repeat (first | (with_reducible first | exact HB.out | apply q02 | apply q00 | apply q01) | exact HB.out)) hb); have n1_ := q04.mk (hbox); have n2_ := q04.mk ((by rw [hg]; exact (q0e (by repeat (first | (with_reducible first | exact HB.out | apply q02 | apply q00 | apply q01) | exact HB.out))) : w.heap.size ≤ gb118)); have n3_ := q04.mk ((by rw [hg]; exact (q0e (by repeat (first | (with_reducible first | exact HB.out | apply q02 | apply q00 | apply q01) | exact HB.out))) : w.heap.size ≤ gb118)); clear HB; have HB := n0_; have BK118 := n1_; have GW118 := n2_; have GE118 := n3_; clear n0_ n1_ n2_ n3_; clear hb hbox hg))
 (try simp only [Act.put, qa15, qb15, qc15])
 go_cut [3] (fun v3 wc => ∃ (kq : Nat) (x3_1 : Bool), v3 = .bool x3_1 ∧ q04 (block_Check.j0 kq x3_1 a0_0 a0_1 a0_2 a0_3 = some r) ∧ q04 (kq ≤ k) ∧ q04 (wc.heap[gb118]? = some (.cells #[.string a0_0, .int .u64 a0_1, .int .i64 a0_2, .string a0_3] 28 (0, 0))) ∧ q04 (Below w.heap.size w wc))
 case first =>
  have H := HC2.out
  clear HC2
  by_cases c4 : a0_2 = 1
  ·rw [if_pos c4] at H
   have c4b0 : (a0_2 == 1) = true := beq_iff_eq.mpr c4
   have c4b1 : (a0_2 != 1) = false := bne_eq_false_iff_eq.mpr c4
   clear c4
   (first | rw [c4b0] | (simp only [i64_w, i32_w]; rw [c4b0]) | skip)
   have H' := q04.mk H
   clear H
   have hcz5_0 : w3.cell? ⟨gb118, 0, none⟩ = some (.string a0_0) := (q03 BK118.out 0).trans rfl
   have hcz5_1 : w3.cell? ⟨gb118, 1, none⟩ = some (.int .u64 a0_1) := (q03 BK118.out 1).trans rfl
   have hcz5_2 : w3.cell? ⟨gb118, 2, none⟩ = some (.int .i64 a0_2) := (q03 BK118.out 2).trans rfl
   have hcz5_3 : w3.cell? ⟨gb118, 3, none⟩ = some (.string a0_3) := (q03 BK118.out 3).trans rfl
   have hfz5_0 := q05 BK118.out 0
   have hfz5_1 := q05 BK118.out 1
   have hfz5_2 := q05 BK118.out 2
   have hfz5_3 := q05 BK118.out 3
   go_wp2
   go_meet
   case rel => exact ⟨_, (false), (by first | rfl | (simp; done) | (simp [*]; done)), H', ⟨by first | omega | exact Nat.le_refl _⟩, ⟨by (with_reducible repeat (first | refine q07 ?_ _ | refine q08 ?_ | refine q06 ?_ _)); exact BK118.out⟩, ⟨by repeat (first | (with_reducible first | exact HB.out | apply q02 | apply q00 | apply q01 | refine q09 ?_ GE118.out) | exact HB.out)⟩⟩
  ·rw [if_neg c4] at H
   have c4b0 : (a0_2 == 1) = false := beq_eq_false_iff_ne.mpr c4
   have c4b1 : (a0_2 != 1) = true := bne_iff_ne.mpr c4
   (first | rw [c4b0] | (simp only [i64_w, i32_w]; rw [c4b0]) | skip)
   have H' := q04.mk H
   clear H
   have hcz6_0 : w3.cell? ⟨gb118, 0, none⟩ = some (.string a0_0) := (q03 BK118.out 0).trans rfl
   have hcz6_1 : w3.cell? ⟨gb118, 1, none⟩ = some (.int .u64 a0_1) := (q03 BK118.out 1).trans rfl
   have hcz6_2 : w3.cell? ⟨gb118, 2, none⟩ = some (.int .i64 a0_2) := (q03 BK118.out 2).trans rfl
   have hcz6_3 : w3.cell? ⟨gb118, 3, none⟩ = some (.string a0_3) := (q03 BK118.out 3).trans rfl
   have hfz6_0 := q05 BK118.out 0
   have hfz6_1 := q05 BK118.out 1
   have hfz6_2 := q05 BK118.out 2
   have hfz6_3 := q05 BK118.out 3
   go_wp2
   go_meet
   case rel => exact ⟨_, ((a0_2 != 2)), (by first | rfl | (simp; done) | (simp [*]; done)), H', ⟨by first | omega | exact Nat.le_refl _⟩, ⟨by (with_reducible repeat (first | refine q07 ?_ _ | refine q08 ?_ | refine q06 ?_ _)); exact BK118.out⟩, ⟨by repeat (first | (with_reducible first | exact HB.out | apply q02 | apply q00 | apply q01 | refine q09 ?_ GE118.out) | exact HB.out)⟩⟩
 case rest =>
  clear HC2
  try clear p2
  try clear c4
  try clear c4b0
  try clear c4b1
  try clear c5
  try clear hcz5_0
  try clear hcz5_1
  try clear hcz5_2
  try clear hcz5_3
  try clear hcz6_0
  try clear hcz6_1
  try clear hcz6_2
  try clear hcz6_3
  try clear hfz5_0
  try clear hfz5_1
  try clear hfz5_2
  try clear hfz5_3
  try clear hfz6_0
  try clear hfz6_1
  try clear hfz6_2
  try clear hfz6_3
  obtain ⟨kq, x3_1, rfl, HA, HJ1, BK118, HB⟩ := hcut
  cases kq with
  | zero => exact absurd HA.out (by simp [block_Check.j0])
  | succ kj1 =>
   have H := HA.out
   clear HA
   simp only [block_Check.j0] at H
   have HC7 := q04.mk H
   clear H
   go_upto_if 3 with (fail)
   go_cut [3] (fun v3 wc => ∃ (kq : Nat) (x3_6 : Bool), v3 = .bool x3_6 ∧ q04 (block_Check.j2 kq x3_6 a0_0 a0_1 a0_2 a0_3 = some r) ∧ q04 (kq ≤ kj1) ∧ q04 (wc.heap[gb118]? = some (.cells #[.string a0_0, .int .u64 a0_1, .int .i64 a0_2, .string a0_3] 28 (0, 0))) ∧ q04 (Below w.heap.size w wc))
   case first =>
    have H := HC7.out
    clear HC7
    by_cases c8 : x3_1 = true
    ·subst c8
     have H1 : (block_Check.j2 kj1 true a0_0 a0_1 a0_2 a0_3) = some r := by rw [if_pos rfl] at H; exact H
     clear H
     have H := H1
     clear H1
     have H' := q04.mk H
     clear H
     go_wp2
     go_meet
     case rel => exact ⟨_, (true), (by first | rfl | (simp; done) | (simp [*]; done)), H', ⟨by have := HJ1.out; first | omega | exact Nat.le_refl _⟩, ⟨by (with_reducible repeat (first | refine q07 ?_ _ | refine q08 ?_ | refine q06 ?_ _)); exact BK118.out⟩, ⟨by repeat (first | (with_reducible first | exact HB.out | apply q02 | apply q00 | apply q01 | refine q09 ?_ GE118.out) | exact HB.out)⟩⟩
    ·replace c8 := Bool.eq_false_iff.mpr c8
     subst c8
     have H1 : (if a0_0.toList = ([] : List UInt8) then (block_Check.j2 kj1 (a0_0.toList == ([] : List UInt8)) a0_0 a0_1 a0_2 a0_3) else (if a0_2 = 2 then (block_Check.j1 kj1 (a0_3.toList != ([] : List UInt8)) a0_0 a0_1 a0_2 a0_3) else (block_Check.j1 kj1 false a0_0 a0_1 a0_2 a0_3))) = some r := by rw [if_neg (show ¬ (false = true) by decide)] at H; exact H
     clear H
     have H := H1
     clear H1
     by_cases c9 : a0_0.toList = ([] : List UInt8)
     ·rw [if_pos c9] at H
      have c9b0 : (a0_0.toList == ([] : List UInt8)) = true := beq_iff_eq.mpr c9
      have c9b1 : (a0_0.toList != ([] : List UInt8)) = false := bne_eq_false_iff_eq.mpr c9
      clear c9
      (first | rw [c9b0] | (simp only [i64_w, i32_w]; rw [c9b0]) | skip)
      have H' := q04.mk H
      clear H
      have hcz10_0 : wc.cell? ⟨gb118, 0, none⟩ = some (.string a0_0) := (q03 BK118.out 0).trans rfl
      have hcz10_1 : wc.cell? ⟨gb118, 1, none⟩ = some (.int .u64 a0_1) := (q03 BK118.out 1).trans rfl
      have hcz10_2 : wc.cell? ⟨gb118, 2, none⟩ = some (.int .i64 a0_2) := (q03 BK118.out 2).trans rfl
      have hcz10_3 : wc.cell? ⟨gb118, 3, none⟩ = some (.string a0_3) := (q03 BK118.out 3).trans rfl
      have hfz10_0 := q05 BK118.out 0
      have hfz10_1 := q05 BK118.out 1
      have hfz10_2 := q05 BK118.out 2
      have hfz10_3 := q05 BK118.out 3
      go_wp2
      go_meet
      case rel => exact ⟨_, ((a0_0.toList == ([] : List UInt8))), (by first | rfl | (simp; done) | (simp [*]; done)), H', ⟨by have := HJ1.out; first | omega | exact Nat.le_refl _⟩, ⟨by (with_reducible repeat (first | refine q07 ?_ _ | refine q08 ?_ | refine q06 ?_ _)); exact BK118.out⟩, ⟨by repeat (first | (with_reducible first | exact HB.out | apply q02 | apply q00 | apply q01 | refine q09 ?_ GE118.out) | exact HB.out)⟩⟩
     ·rw [if_neg c9] at H
      have c9b0 : (a0_0.toList == ([] : List UInt8)) = false := beq_eq_false_iff_ne.mpr c9
      have c9b1 : (a0_0.toList != ([] : List UInt8)) = true := bne_iff_ne.mpr c9
      (first | rw [c9b0] | (simp only [i64_w, i32_w]; rw [c9b0]) | skip)
      have HC11 := q04.mk H
      clear H
      have hcz12_0 : wc.cell? ⟨gb118, 0, none⟩ = some (.string a0_0) := (q03 BK118.out 0).trans rfl
      have hcz12_1 : wc.cell? ⟨gb118, 1, none⟩ = some (.int .u64 a0_1) := (q03 BK118.out 1).trans rfl
      have hcz12_2 : wc.cell? ⟨gb118, 2, none⟩ = some (.int .i64 a0_2) := (q03 BK118.out 2).trans rfl
      have hcz12_3 : wc.cell? ⟨gb118, 3, none⟩ = some (.string a0_3) := (q03 BK118.out 3).trans rfl
      have hfz12_0 := q05 BK118.out 0
      have hfz12_1 := q05 BK118.out 1
      have hfz12_2 := q05 BK118.out 2
      have hfz12_3 := q05 BK118.out 3
      go_upto_region 3 with (fail)
      go_cut [3] (fun v3 wc => ∃ (kq : Nat) (x3_10 : Bool), v3 = .bool x3_10 ∧ q04 (block_Check.j1 kq x3_10 a0_0 a0_1 a0_2 a0_3 = some r) ∧ q04 (kq ≤ kj1) ∧ q04 (wc.heap[gb118]? = some (.cells #[.string a0_0, .int .u64 a0_1, .int .i64 a0_2, .string a0_3] 28 (0, 0))) ∧ q04 (Below w.heap.size w wc))
      case first =>
       have H := HC11.out
       clear HC11
       by_cases c13 : a0_2 = 2
       ·rw [if_pos c13] at H
        have c13b0 : (a0_2 == 2) = true := beq_iff_eq.mpr c13
        have c13b1 : (a0_2 != 2) = false := bne_eq_false_iff_eq.mpr c13
        clear c13
        (first | rw [c13b0] | (simp only [i64_w, i32_w]; rw [c13b0]) | skip)
        have H' := q04.mk H
        clear H
        have hcz14_0 : wc.cell? ⟨gb118, 0, none⟩ = some (.string a0_0) := (q03 BK118.out 0).trans rfl
        have hcz14_1 : wc.cell? ⟨gb118, 1, none⟩ = some (.int .u64 a0_1) := (q03 BK118.out 1).trans rfl
        have hcz14_2 : wc.cell? ⟨gb118, 2, none⟩ = some (.int .i64 a0_2) := (q03 BK118.out 2).trans rfl
        have hcz14_3 : wc.cell? ⟨gb118, 3, none⟩ = some (.string a0_3) := (q03 BK118.out 3).trans rfl
        have hfz14_0 := q05 BK118.out 0
        have hfz14_1 := q05 BK118.out 1
        have hfz14_2 := q05 BK118.out 2
        have hfz14_3 := q05 BK118.out 3
        go_wp2
        go_meet
        case rel => exact ⟨_, ((a0_3.toList != ([] : List UInt8))), (by first | rfl | (simp; done) | (simp [*]; done) | (simp [*]; exact isEmpty_bne _) | (simp; exact isEmpty_bne _)), H', ⟨by have := HJ1.out; first | omega | exact Nat.le_refl _⟩, ⟨by (with_reducible repeat (first | refine q07 ?_ _ | refine q08 ?_ | refine q06 ?_ _)); exact BK118.out⟩, ⟨by repeat (first | (with_reducible first | exact HB.out | apply q02 | apply q00 | apply q01 | refine q09 ?_ GE118.out) | exact HB.out)⟩⟩
       ·rw [if_neg c13] at H
        have c13b0 : (a0_2 == 2) = false := beq_eq_false_iff_ne.mpr c13
        have c13b1 : (a0_2 != 2) = true := bne_iff_ne.mpr c13
        (first | rw [c13b0] | (simp only [i64_w, i32_w]; rw [c13b0]) | skip)
        have H' := q04.mk H
        clear H
        have hcz15_0 : wc.cell? ⟨gb118, 0, none⟩ = some (.string a0_0) := (q03 BK118.out 0).trans rfl
        have hcz15_1 : wc.cell? ⟨gb118, 1, none⟩ = some (.int .u64 a0_1) := (q03 BK118.out 1).trans rfl
        have hcz15_2 : wc.cell? ⟨gb118, 2, none⟩ = some (.int .i64 a0_2) := (q03 BK118.out 2).trans rfl
        have hcz15_3 : wc.cell? ⟨gb118, 3, none⟩ = some (.string a0_3) := (q03 BK118.out 3).trans rfl
        have hfz15_0 := q05 BK118.out 0
        have hfz15_1 := q05 BK118.out 1
        have hfz15_2 := q05 BK118.out 2
        have hfz15_3 := q05 BK118.out 3
        go_wp2
        go_meet
        case rel => exact ⟨_, (false), (by first | rfl | (simp; done) | (simp [*]; done)), H', ⟨by have := HJ1.out; first | omega | exact Nat.le_refl _⟩, ⟨by (with_reducible repeat (first | refine q07 ?_ _ | refine q08 ?_ | refine q06 ?_ _)); exact BK118.out⟩, ⟨by repeat (first | (with_reducible first | exact HB.out | apply q02 | apply q00 | apply q01 | refine q09 ?_ GE118.out) | exact HB.out)⟩⟩
      case rest =>
       clear HC11
       try clear c1
       try clear p2
       try clear c4
       try clear c4b0
       try clear c4b1
       try clear c5
       try clear c8
       try clear c9
       try clear c9b0
       try clear c9b1
       try clear c13
       try clear c13b0
       try clear c13b1
       try clear hcz10_0
       try clear hcz10_1
       try clear hcz10_2
       try clear hcz10_3
       try clear hcz12_0
       try clear hcz12_1
       try clear hcz12_2
       try clear hcz12_3
       try clear hcz14_0
       try clear hcz14_1
       try clear hcz14_2
       try clear hcz14_3
       try clear hcz15_0
       try clear hcz15_1
       try clear hcz15_2
       try clear hcz15_3
       try clear hcz5_0
       try clear hcz5_1
       try clear hcz5_2
       try clear hcz5_3
       try clear hcz6_0
       try clear hcz6_1
       try clear hcz6_2
       try clear hcz6_3
       try clear hfz10_0
       try clear hfz10_1
       try clear hfz10_2
       try clear hfz10_3
       try clear hfz12_0
       try clear hfz12_1
       try clear hfz12_2
       try clear hfz12_3
       try clear hfz14_0
       try clear hfz14_1
       try clear hfz14_2
       try clear hfz14_3
       try clear hfz15_0
       try clear hfz15_1
       try clear hfz15_2
       try clear hfz15_3
       try clear hfz5_0
       try clear hfz5_1
       try clear hfz5_2
       try clear hfz5_3
       try clear hfz6_0
       try clear hfz6_1
       try clear hfz6_2
       try clear hfz6_3
       try clear p2
       obtain ⟨kq, x3_10, rfl, HA, HJ10, BK118, HB⟩ := hcut
       cases kq with
       | zero => exact absurd HA.out (by simp [block_Check.j1])
       | succ kj10 =>
        have H := HA.out
        clear HA
        simp only [block_Check.j1] at H
        by_cases c16 : x3_10 = true
        ·subst c16
         have H1 : (block_Check.j2 kj10 true a0_0 a0_1 a0_2 a0_3) = some r := by rw [if_pos rfl] at H; exact H
         clear H
         have H := H1
         clear H1
         have H' := q04.mk H
         clear H
         go_wp2
         go_meet
         case rel => exact ⟨_, (true), (by first | rfl | (simp; done) | (simp [*]; done)), H', ⟨by have := HJ1.out; have := HJ10.out; first | omega | exact Nat.le_refl _⟩, ⟨by (with_reducible repeat (first | refine q07 ?_ _ | refine q08 ?_ | refine q06 ?_ _)); exact BK118.out⟩, ⟨by repeat (first | (with_reducible first | exact HB.out | apply q02 | apply q00 | apply q01 | refine q09 ?_ GE118.out) | exact HB.out)⟩⟩
        ·replace c16 := Bool.eq_false_iff.mpr c16
         subst c16
         have H1 : (if a0_1 < 1 then (block_Check.j2 kj10 (decide (a0_1 < 1)) a0_0 a0_1 a0_2 a0_3) else (block_Check.j2 kj10 (decide (a0_1 ≥ 72057594037927936)) a0_0 a0_1 a0_2 a0_3)) = some r := by rw [if_neg (show ¬ (false = true) by decide)] at H; exact H
         clear H
         have H := H1
         clear H1
         by_cases c17 : a0_1 < 1
         ·rw [if_pos c17] at H
          have c17b0 : decide (a0_1 < 1) = true := decide_eq_true c17
          clear c17
          have H' := q04.mk H
          clear H
          have hcz18_0 : wc.cell? ⟨gb118, 0, none⟩ = some (.string a0_0) := (q03 BK118.out 0).trans rfl
          have hcz18_1 : wc.cell? ⟨gb118, 1, none⟩ = some (.int .u64 a0_1) := (q03 BK118.out 1).trans rfl
          have hcz18_2 : wc.cell? ⟨gb118, 2, none⟩ = some (.int .i64 a0_2) := (q03 BK118.out 2).trans rfl
          have hcz18_3 : wc.cell? ⟨gb118, 3, none⟩ = some (.string a0_3) := (q03 BK118.out 3).trans rfl
          have hfz18_0 := q05 BK118.out 0
          have hfz18_1 := q05 BK118.out 1
          have hfz18_2 := q05 BK118.out 2
          have hfz18_3 := q05 BK118.out 3
          go_wp2
          go_meet
          case rel => exact ⟨_, (decide (a0_1 < 1)), (by first | rfl | (simp; done) | (simp [*]; done)), H', ⟨by have := HJ1.out; have := HJ10.out; first | omega | exact Nat.le_refl _⟩, ⟨by (with_reducible repeat (first | refine q07 ?_ _ | refine q08 ?_ | refine q06 ?_ _)); exact BK118.out⟩, ⟨by repeat (first | (with_reducible first | exact HB.out | apply q02 | apply q00 | apply q01 | refine q09 ?_ GE118.out) | exact HB.out)⟩⟩
         ·rw [if_neg c17] at H
          have c17b0 : decide (a0_1 < 1) = false := decide_eq_false c17
          clear c17
          have H' := q04.mk H
          clear H
          have hcz19_0 : wc.cell? ⟨gb118, 0, none⟩ = some (.string a0_0) := (q03 BK118.out 0).trans rfl
          have hcz19_1 : wc.cell? ⟨gb118, 1, none⟩ = some (.int .u64 a0_1) := (q03 BK118.out 1).trans rfl
          have hcz19_2 : wc.cell? ⟨gb118, 2, none⟩ = some (.int .i64 a0_2) := (q03 BK118.out 2).trans rfl
          have hcz19_3 : wc.cell? ⟨gb118, 3, none⟩ = some (.string a0_3) := (q03 BK118.out 3).trans rfl
          have hfz19_0 := q05 BK118.out 0
          have hfz19_1 := q05 BK118.out 1
          have hfz19_2 := q05 BK118.out 2
          have hfz19_3 := q05 BK118.out 3
          go_wp2
          go_meet
          case rel => exact ⟨_, (decide (a0_1 ≥ 72057594037927936)), (by first | rfl | (simp; done) | (simp [*]; done)), H', ⟨by have := HJ1.out; have := HJ10.out; first | omega | exact Nat.le_refl _⟩, ⟨by (with_reducible repeat (first | refine q07 ?_ _ | refine q08 ?_ | refine q06 ?_ _)); exact BK118.out⟩, ⟨by repeat (first | (with_reducible first | exact HB.out | apply q02 | apply q00 | apply q01 | refine q09 ?_ GE118.out) | exact HB.out)⟩⟩
   case rest =>
    clear HC7
    try clear c1
    try clear p2
    try clear c4
    try clear c4b0
    try clear c4b1
    try clear c5
    try clear c8
    try clear c9
    try clear c9b0
    try clear c9b1
    try clear c13
    try clear c13b0
    try clear c13b1
    try clear c16
    try clear c17
    try clear c17b0
    try clear hcz10_0
    try clear hcz10_1
    try clear hcz10_2
    try clear hcz10_3
    try clear hcz12_0
    try clear hcz12_1
    try clear hcz12_2
    try clear hcz12_3
    try clear hcz14_0
    try clear hcz14_1
    try clear hcz14_2
    try clear hcz14_3
    try clear hcz15_0
    try clear hcz15_1
    try clear hcz15_2
    try clear hcz15_3
    try clear hcz18_0
    try clear hcz18_1
    try clear hcz18_2
    try clear hcz18_3
    try clear hcz19_0
    try clear hcz19_1
    try clear hcz19_2
    try clear hcz19_3
    try clear hcz5_0
    try clear hcz5_1
    try clear hcz5_2
    try clear hcz5_3
    try clear hcz6_0
    try clear hcz6_1
    try clear hcz6_2
    try clear hcz6_3
    try clear hfz10_0
    try clear hfz10_1
    try clear hfz10_2
    try clear hfz10_3
    try clear hfz12_0
    try clear hfz12_1
    try clear hfz12_2
    try clear hfz12_3
    try clear hfz14_0
    try clear hfz14_1
    try clear hfz14_2
    try clear hfz14_3
    try clear hfz15_0
    try clear hfz15_1
    try clear hfz15_2
    try clear hfz15_3
    try clear hfz18_0
    try clear hfz18_1
    try clear hfz18_2
    try clear hfz18_3
    try clear hfz19_0
    try clear hfz19_1
    try clear hfz19_2
    try clear hfz19_3
    try clear hfz5_0
    try clear hfz5_1
    try clear hfz5_2
    try clear hfz5_3
    try clear hfz6_0
    try clear hfz6_1
    try clear hfz6_2
    try clear hfz6_3
    try clear p2
    obtain ⟨kq, x3_6, rfl, HA, HJ6, BK118, HB⟩ := hcut
    cases kq with
    | zero => exact absurd HA.out (by simp [block_Check.j2])
    | succ kj6 =>
     have H := HA.out
     clear HA
     simp only [block_Check.j2] at H
     by_cases c20 : x3_6 = true
     ·subst c20
      have H1 : (some 2) = some r := by rw [if_pos rfl] at H; exact H
      clear H
      have H := H1
      clear H1
      obtain rfl := Option.some.inj H
      go_wp2
      go_ret
      exact ⟨by first | rfl | (simp [q0c, q0b] <;> rfl) | (simp [*, q0c, q0b] <;> rfl), by repeat (first | (with_reducible first | exact HB.out | apply q02 | apply q00 | apply q01 | refine q09 ?_ GE118.out) | exact HB.out)⟩
     ·replace c20 := Bool.eq_false_iff.mpr c20
      subst c20
      have H1 : (if (a0_0.size : Int) > 520 then (some 3) else (if (a0_3.size : Int) > 2048 then (some 3) else (some 0))) = some r := by rw [if_neg (show ¬ (false = true) by decide)] at H; exact H
      clear H
      have H := H1
      clear H1
      by_cases c21 : (a0_0.size : Int) > 520
      ·rw [if_pos c21] at H
       have c21b0 : decide (520 < (a0_0.size : Int)) = true := decide_eq_true c21
       have c21b1 : decide (520 < a0_0.size) = true := decide_eq_true (by omega)
       clear c21
       obtain rfl := Option.some.inj H
       have hcz22_0 : wc.cell? ⟨gb118, 0, none⟩ = some (.string a0_0) := (q03 BK118.out 0).trans rfl
       have hcz22_1 : wc.cell? ⟨gb118, 1, none⟩ = some (.int .u64 a0_1) := (q03 BK118.out 1).trans rfl
       have hcz22_2 : wc.cell? ⟨gb118, 2, none⟩ = some (.int .i64 a0_2) := (q03 BK118.out 2).trans rfl
       have hcz22_3 : wc.cell? ⟨gb118, 3, none⟩ = some (.string a0_3) := (q03 BK118.out 3).trans rfl
       have hfz22_0 := q05 BK118.out 0
       have hfz22_1 := q05 BK118.out 1
       have hfz22_2 := q05 BK118.out 2
       have hfz22_3 := q05 BK118.out 3
       go_wp2
       go_ret
       exact ⟨by first | rfl | (simp [q0c, q0b] <;> rfl) | (simp [*, q0c, q0b] <;> rfl), by repeat (first | (with_reducible first | exact HB.out | apply q02 | apply q00 | apply q01 | refine q09 ?_ GE118.out) | exact HB.out)⟩
      ·rw [if_neg c21] at H
       have c21b0 : decide (520 < (a0_0.size : Int)) = false := decide_eq_false c21
       have c21b1 : decide (520 < a0_0.size) = false := decide_eq_false (by omega)
       clear c21
       by_cases c23 : (a0_3.size : Int) > 2048
       ·rw [if_pos c23] at H
        have c23b0 : decide (2048 < (a0_3.size : Int)) = true := decide_eq_true c23
        have c23b1 : decide (2048 < a0_3.size) = true := decide_eq_true (by omega)
        clear c23
        obtain rfl := Option.some.inj H
        have hcz24_0 : wc.cell? ⟨gb118, 0, none⟩ = some (.string a0_0) := (q03 BK118.out 0).trans rfl
        have hcz24_1 : wc.cell? ⟨gb118, 1, none⟩ = some (.int .u64 a0_1) := (q03 BK118.out 1).trans rfl
        have hcz24_2 : wc.cell? ⟨gb118, 2, none⟩ = some (.int .i64 a0_2) := (q03 BK118.out 2).trans rfl
        have hcz24_3 : wc.cell? ⟨gb118, 3, none⟩ = some (.string a0_3) := (q03 BK118.out 3).trans rfl
        have hfz24_0 := q05 BK118.out 0
        have hfz24_1 := q05 BK118.out 1
        have hfz24_2 := q05 BK118.out 2
        have hfz24_3 := q05 BK118.out 3
        go_wp2
        go_ret
        exact ⟨by first | rfl | (simp [q0c, q0b] <;> rfl) | (simp [*, q0c, q0b] <;> rfl), by repeat (first | (with_reducible first | exact HB.out | apply q02 | apply q00 | apply q01 | refine q09 ?_ GE118.out) | exact HB.out)⟩
       ·rw [if_neg c23] at H
        have c23b0 : decide (2048 < (a0_3.size : Int)) = false := decide_eq_false c23
        have c23b1 : decide (2048 < a0_3.size) = false := decide_eq_false (by omega)
        clear c23
        obtain rfl := Option.some.inj H
        have hcz25_0 : wc.cell? ⟨gb118, 0, none⟩ = some (.string a0_0) := (q03 BK118.out 0).trans rfl
        have hcz25_1 : wc.cell? ⟨gb118, 1, none⟩ = some (.int .u64 a0_1) := (q03 BK118.out 1).trans rfl
        have hcz25_2 : wc.cell? ⟨gb118, 2, none⟩ = some (.int .i64 a0_2) := (q03 BK118.out 2).trans rfl
        have hcz25_3 : wc.cell? ⟨gb118, 3, none⟩ = some (.string a0_3) := (q03 BK118.out 3).trans rfl
        have hfz25_0 := q05 BK118.out 0
        have hfz25_1 := q05 BK118.out 1
        have hfz25_2 := q05 BK118.out 2
        have hfz25_3 := q05 BK118.out 3
        go_wp2
        go_ret
        exact ⟨by first | rfl | (simp [q0c, q0b] <;> rfl) | (simp [*, q0c, q0b] <;> rfl), by repeat (first | (with_reducible first | exact HB.out | apply q02 | apply q00 | apply q01 | refine q09 ?_ GE118.out) | exact HB.out)⟩
end Go.Proofs.Ytaigmemmgjlhgaa.Print
-- Print5
namespace Go.Proofs.Ytaigmemmgjlhgaa.Print
open Go.RowKit Go.Proofs.YtaigmemmgjlhgaaW.PrintWords Go.Proofs.YtaigmemmgjlhgaaW.PrintLast Go.Proofs.YtaigmemmgjlhgaaW.PrintMore
attribute [local go_sem] q1d q1b q1t q1s q19 q17 q1c q1a
set_option linter.unusedVariables false
set_option linter.unusedSimpArgs false
def block_ahead.f (a0_0 : ByteArray) (a0_1 : Int) (a0_2 : Int) (a0_3 : ByteArray) (a1 : ByteArray) (a2 : Int) : Option (Bool) := if (Op.bytesLess a0_0.toList a1.toList) = true then (some true) else (if a0_0.toList = a1.toList then (some (decide (a0_1 > a2))) else (some false))
set_option maxHeartbeats 8000000 in
set_option maxRecDepth 100000 in
theorem block_ahead.calls (a0_0 : ByteArray) (a0_1 : Int) (a0_2 : Int) (a0_3 : ByteArray) (a1 : ByteArray) (a2 : Int) (r : Bool) (w : World) (h : block_ahead.f a0_0 a0_1 a0_2 a0_3 a1 a2 = some r) :
  Calls Try.prog 78 #[.agg #[.string a0_0, .int .u64 a0_1, .int .i64 a0_2, .string a0_3], .string a1, .int .u64 a2] w fun e w' => e = .returned (.bool r) ∧ Below w.heap.size w w' := by
 have hu28 := Try.underlying28
 have HB := q04.mk (Below.refl w.heap.size w)
 have H : (if (Op.bytesLess a0_0.toList a1.toList) = true then (some true) else (if a0_0.toList = a1.toList then (some (decide (a0_1 > a2))) else (some false))) = some r := h
 clear h
 by_cases c4 : (Op.bytesLess a0_0.toList a1.toList) = true
 ·rw [if_pos c4] at H
  have c4b0 : (Op.bytesLess a0_0.toList a1.toList) = true := c4
  have c4k1 := less_anti c4b0
  have c4k2 := less_ne1 c4b0
  have c4k3 := less_ne2 c4b0
  have c4k4 := eq_false (less_ne c4b0)
  have c4k5 := eq_false (less_ne c4b0).symm
  clear c4
  obtain rfl := Option.some.inj H
  go_enter Try.func78, Try.ntmps78
  go_wp2_with (first | ((with_reducible refine q0q (N := 3) rfl ?_); refine q0r ?hg (N := 3) ?hd (cs := #[.string a0_0, .int .u64 a0_1, .int .i64 a0_2, .string a0_3]) (t := 28) ?hr ?_; (case hd => rfl); (case hg => rfl); (case hr => first | (go_simp; done) | (go_simp; rfl)); intro gb119 hg w5 hbox hb; have n0_ := q04.mk (q0a (by repeat (first | (with_reducible first | exact HB.out | apply q02 | apply q00 | apply q01) | exact HB.out)) hb); have n1_ := q04.mk (hbox); have n2_ := q04.mk ((by rw [hg]; exact (q0e (by repeat (first | (with_reducible first | exact HB.out | apply q02 | apply q00 | apply q01) | exact HB.out))) : w.heap.size ≤ gb119)); have n3_ := q04.mk ((by rw [hg]; exact (q0e (by repeat (first | (with_reducible first | exact HB.out | apply q02 | apply q00 | apply q01) | exact HB.out))) : w.heap.size ≤ gb119)); clear HB; have HB := n0_; have BK119 := n1_; have GW119 := n2_; have GE119 := n3_; clear n0_ n1_ n2_ n3_; clear hb hbox hg; have hcz6_0 : w5.cell? ⟨gb119, 0, none⟩ = some (.string a0_0) := (q03 BK119.out 0).trans rfl; have hcz6_1 : w5.cell? ⟨gb119, 1, none⟩ = some (.int .u64 a0_1) := (q03 BK119.out 1).trans rfl; have hcz6_2 : w5.cell? ⟨gb119, 2, none⟩ = some (.int .i64 a0_2) := (q03 BK119.out 2).trans rfl; have hcz6_3 : w5.cell? ⟨gb119, 3, none⟩ = some (.string a0_3) := (q03 BK119.out 3).trans rfl; have hfz6_0 := q05 BK119.out 0; have hfz6_1 := q05 BK119.out 1; have hfz6_2 := q05 BK119.out 2; have hfz6_3 := q05 BK119.out 3))
  go_ret
  exact ⟨by first | rfl | (simp [q0c, q0b] <;> rfl) | (simp [*, q0c, q0b] <;> rfl), by repeat (first | (with_reducible first | exact HB.out | apply q02 | apply q00 | apply q01 | refine q09 ?_ GE119.out) | exact HB.out)⟩
 ·rw [if_neg c4] at H
  have c4b0 : (Op.bytesLess a0_0.toList a1.toList) = false := by simpa using c4
  have c4k1 := less_orB c4b0
  have c4k2 := eq_true (less_or c4b0)
  clear c4
  by_cases c7 : a0_0.toList = a1.toList
  ·rw [if_pos c7] at H
   have c7b0 : (a0_0.toList == a1.toList) = true := beq_iff_eq.mpr c7
   have c7b1 : (a0_0.toList != a1.toList) = false := bne_eq_false_iff_eq.mpr c7
   clear c7
   obtain rfl := Option.some.inj H
   go_enter Try.func78, Try.ntmps78
   go_wp2_with (first | ((with_reducible refine q0q (N := 3) rfl ?_); refine q0r ?hg (N := 3) ?hd (cs := #[.string a0_0, .int .u64 a0_1, .int .i64 a0_2, .string a0_3]) (t := 28) ?hr ?_; (case hd => rfl); (case hg => rfl); (case hr => first | (go_simp; done) | (go_simp; rfl)); intro gb119 hg w8 hbox hb; have n0_ := q04.mk (q0a (by repeat (first | (with_reducible first | exact HB.out | apply q02 | apply q00 | apply q01) | exact HB.out)) hb); have n1_ := q04.mk (hbox); have n2_ := q04.mk ((by rw [hg]; exact (q0e (by repeat (first | (with_reducible first | exact HB.out | apply q02 | apply q00 | apply q01) | exact HB.out))) : w.heap.size ≤ gb119)); have n3_ := q04.mk ((by rw [hg]; exact (q0e (by repeat (first | (with_reducible first | exact HB.out | apply q02 | apply q00 | apply q01) | exact HB.out))) : w.heap.size ≤ gb119)); clear HB; have HB := n0_; have BK119 := n1_; have GW119 := n2_; have GE119 := n3_; clear n0_ n1_ n2_ n3_; clear hb hbox hg; have hcz9_0 : w8.cell? ⟨gb119, 0, none⟩ = some (.string a0_0) := (q03 BK119.out 0).trans rfl; have hcz9_1 : w8.cell? ⟨gb119, 1, none⟩ = some (.int .u64 a0_1) := (q03 BK119.out 1).trans rfl; have hcz9_2 : w8.cell? ⟨gb119, 2, none⟩ = some (.int .i64 a0_2) := (q03 BK119.out 2).trans rfl; have hcz9_3 : w8.cell? ⟨gb119, 3, none⟩ = some (.string a0_3) := (q03 BK119.out 3).trans rfl; have hfz9_0 := q05 BK119.out 0; have hfz9_1 := q05 BK119.out 1; have hfz9_2 := q05 BK119.out 2; have hfz9_3 := q05 BK119.out 3))
   go_ret
   exact ⟨by first | rfl | (simp [q0c, q0b] <;> rfl) | (simp [*, q0c, q0b] <;> rfl), by repeat (first | (with_reducible first | exact HB.out | apply q02 | apply q00 | apply q01 | refine q09 ?_ GE119.out) | exact HB.out)⟩
  ·rw [if_neg c7] at H
   have c7b0 : (a0_0.toList == a1.toList) = false := beq_eq_false_iff_ne.mpr c7
   try have c7k2 : Op.bytesLess a1.toList a0_0.toList = true := (less_or c4b0).resolve_right (fun e => by simp [e] at c7b0)
   have c7b1 : (a0_0.toList != a1.toList) = true := bne_iff_ne.mpr c7
   obtain rfl := Option.some.inj H
   go_enter Try.func78, Try.ntmps78
   go_wp2_with (first | ((with_reducible refine q0q (N := 3) rfl ?_); refine q0r ?hg (N := 3) ?hd (cs := #[.string a0_0, .int .u64 a0_1, .int .i64 a0_2, .string a0_3]) (t := 28) ?hr ?_; (case hd => rfl); (case hg => rfl); (case hr => first | (go_simp; done) | (go_simp; rfl)); intro gb119 hg w10 hbox hb; have n0_ := q04.mk (q0a (by repeat (first | (with_reducible first | exact HB.out | apply q02 | apply q00 | apply q01) | exact HB.out)) hb); have n1_ := q04.mk (hbox); have n2_ := q04.mk ((by rw [hg]; exact (q0e (by repeat (first | (with_reducible first | exact HB.out | apply q02 | apply q00 | apply q01) | exact HB.out))) : w.heap.size ≤ gb119)); have n3_ := q04.mk ((by rw [hg]; exact (q0e (by repeat (first | (with_reducible first | exact HB.out | apply q02 | apply q00 | apply q01) | exact HB.out))) : w.heap.size ≤ gb119)); clear HB; have HB := n0_; have BK119 := n1_; have GW119 := n2_; have GE119 := n3_; clear n0_ n1_ n2_ n3_; clear hb hbox hg; have hcz11_0 : w10.cell? ⟨gb119, 0, none⟩ = some (.string a0_0) := (q03 BK119.out 0).trans rfl; have hcz11_1 : w10.cell? ⟨gb119, 1, none⟩ = some (.int .u64 a0_1) := (q03 BK119.out 1).trans rfl; have hcz11_2 : w10.cell? ⟨gb119, 2, none⟩ = some (.int .i64 a0_2) := (q03 BK119.out 2).trans rfl; have hcz11_3 : w10.cell? ⟨gb119, 3, none⟩ = some (.string a0_3) := (q03 BK119.out 3).trans rfl; have hfz11_0 := q05 BK119.out 0; have hfz11_1 := q05 BK119.out 1; have hfz11_2 := q05 BK119.out 2; have hfz11_3 := q05 BK119.out 3))
   go_ret
   exact ⟨by first | rfl | (simp [q0c, q0b] <;> rfl) | (simp [*, q0c, q0b] <;> rfl), by repeat (first | (with_reducible first | exact HB.out | apply q02 | apply q00 | apply q01 | refine q09 ?_ GE119.out) | exact HB.out)⟩
end Go.Proofs.Ytaigmemmgjlhgaa.Print
-- Print6
namespace Go.Proofs.Ytaigmemmgjlhgaa.Print
open Go.RowKit Go.Proofs.YtaigmemmgjlhgaaW.PrintWords Go.Proofs.YtaigmemmgjlhgaaW.PrintLast Go.Proofs.YtaigmemmgjlhgaaW.PrintMore
attribute [local go_sem] q1d q1b q1t q1s q19 q17 q1c q1a
set_option linter.unusedVariables false
set_option linter.unusedSimpArgs false
def block_Order.l0 : Nat → List (S28) → Int → Option (Bool)
 | 0, _, _ => none
 | k + 1, x0, x3 => if x3 < (x0.length : Int) then (if 0 ≤ (wrap64 (x3 - 1)) then (if (wrap64 (x3 - 1)) < (x0.length : Int) then (if 0 ≤ x3 then ((block_ahead.f ((q0i x0 (wrap64 (x3 - 1))).f0) ((q0i x0 (wrap64 (x3 - 1))).f1) ((q0i x0 (wrap64 (x3 - 1))).f2) ((q0i x0 (wrap64 (x3 - 1))).f3) ((q0i x0 x3).f0) ((q0i x0 x3).f1)).bind fun t123 => (if t123 = true then (block_Order.l0 k x0 (wrap64 (x3 + 1))) else (some false))) else (none)) else (none)) else (none)) else (some true)
def block_Order.f (k : Nat) (l0 : List (S28)) : Option (Bool) := block_Order.l0 k l0 1
theorem block_Order.mono_l : ∀ k, (∀ y0 y1, LeO (block_Order.l0 k y0 y1) (block_Order.l0 (k + 1) y0 y1))
 | 0 => fun _ _ r h => by simp [block_Order.l0] at h
 | k + 1 => by
  have ih0 := block_Order.mono_l k
  ·intro y0 y1
   unfold block_Order.l0
   repeat' first
   | (with_reducible exact ih0 _ _)
   | (with_reducible exact LeO.refl _)
   | (with_reducible exact LeO.none _)
   | (with_reducible refine LeO.ite ?_ ?_)
   | (with_reducible refine LeO.bind ?_ (fun _ => ?_))
   | exact ih0 _ _
   | exact LeO.none _
   | refine LeO.ite ?_ ?_
   | refine LeO.bind ?_ (fun _ => ?_)
theorem block_Order.mono : ∀ a0 k, LeO (block_Order.f k a0) (block_Order.f (k + 1) a0) := by
 intro a0 k
 have ih0 := block_Order.mono_l k
 unfold block_Order.f
 repeat' first
   | (with_reducible exact ih0 _ _)
   | (with_reducible exact LeO.refl _)
   | (with_reducible exact LeO.none _)
   | (with_reducible refine LeO.ite ?_ ?_)
   | (with_reducible refine LeO.bind ?_ (fun _ => ?_))
   | exact ih0 _ _
   | exact LeO.none _
   | refine LeO.ite ?_ ?_
   | refine LeO.bind ?_ (fun _ => ?_)
def block_Order.T4 : Bool × List (List Nat × List Nat) := (true, [([], []), ([], []), ([1], [1]), ([0, 2], [0, 2]), ([3], [3]), ([], []), ([], []), ([5, 6], [5, 6]), ([7], [7]), ([8], [8]), ([], []), ([], []), ([10, 11], [10, 11]), ([12], [12]), ([13], [13]), ([4, 9, 14], [4, 9, 14]), ([15], [15])])
def block_Order.B4 : List Nat := [0, 0, 2, 7, 15, 0, 0, 96, 224, 480, 0, 0, 3072, 7168, 15360, 32767, 65535]
theorem block_Order.tab4 : rtab .any (opsOf Try.f55 4) = block_Order.T4 := by kernel_rfl
theorem block_Order.bits4 : waitsOk block_Order.T4.2 block_Order.B4 = true := by kernel_rfl
set_option maxHeartbeats 8000000 in
set_option maxRecDepth 100000 in
theorem block_Order.calls (k : Nat) (A0 : Option Addr) (c0 : Nat) (l0 : List (S28)) (r : Bool) (w : World) (hr0 : Kd.C k28 w A0 l0.length l0) (hc0 : l0.length ≤ c0) (h : block_Order.f k l0 = some r) :
  Calls Try.prog 55 #[.slice A0 l0.length c0] w fun e w' => e = .returned (.bool r) ∧ Below w.heap.size w w' := by
 have hu28 := Try.underlying28
 have HR0 := q04.mk hr0
 have HC0 := q04.mk hc0
 clear hr0 hc0
 have HB := q04.mk (Below.refl w.heap.size w)
 have H : (block_Order.l0 k l0 1) = some r := h
 clear h
 have H' := q04.mk H
 clear H
 go_enter Try.func55, Try.ntmps55
 go_wp2
 go_loopg [3] k (fun kq v3 w' => ∃ (x3_1 : Int), v3 = .int .i64 x3_1 ∧ q04 (block_Order.l0 kq l0 x3_1 = some r) ∧ q04 (kq ≤ k) ∧ q04 (Below w.heap.size w w'))
 case atStart => exact ⟨(1), (by first | rfl | (simp; done) | (simp [*]; done)), H', ⟨Nat.le_refl _⟩, ⟨by repeat (first | (with_reducible first | exact HB.out | apply q02 | apply q00 | apply q01) | exact HB.out)⟩⟩
 case round =>
  clear H'
  obtain ⟨x3_1, rfl, HA, HK1, HB⟩ := hrel
  cases gk with
  | zero => exact absurd HA.out (by simp [block_Order.l0])
  | succ k1 =>
   have H := HA.out
   clear HA
   simp only [block_Order.l0] at H
   by_cases c2 : x3_1 < (l0.length : Int)
   ·rw [if_pos c2] at H
    have c2b0 : decide (x3_1 < (l0.length : Int)) = true := decide_eq_true c2
    clear c2
    obtain ⟨ji3, hji3⟩ : ∃ j_ : Int, (wrap64 (x3_1 - 1)) = j_ := ⟨_, rfl⟩
    replace H : (if 0 ≤ (ji3) then (if (ji3) < (l0.length : Int) then (if 0 ≤ x3_1 then ((block_ahead.f ((q0i l0 (ji3)).f0) ((q0i l0 (ji3)).f1) ((q0i l0 (ji3)).f2) ((q0i l0 (ji3)).f3) ((q0i l0 x3_1).f0) ((q0i l0 x3_1).f1)).bind fun t123 => (if t123 = true then (block_Order.l0 k1 l0 (wrap64 (x3_1 + 1))) else (some false))) else (none)) else (none)) else (none)) = some r := by first | (rw [hji3] at H; exact H) | (simp only [hji3] at H ⊢; exact H)
    have hji3w : (IntKind.i64.wrap (x3_1 - 1)) = ji3 := (i64_w _).trans hji3
    by_cases c4 : 0 ≤ (ji3)
    ·rw [if_pos c4] at H
     have c4b0 : decide (0 ≤ (ji3)) = true := decide_eq_true c4
     clear c4
     by_cases c5 : (ji3) < (l0.length : Int)
     ·rw [if_pos c5] at H
      have c5b0 : decide ((ji3) < (l0.length : Int)) = true := decide_eq_true c5
      clear c5
      by_cases c6 : 0 ≤ x3_1
      ·rw [if_pos c6] at H
       have c6b0 : decide (0 ≤ x3_1) = true := decide_eq_true c6
       clear c6
       replace H := Option.bind_eq_some_iff.mp H
       obtain ⟨t123, A70, H⟩ := H
       replace H : (if t123 = true then (block_Order.l0 k1 l0 (wrap64 (x3_1 + 1))) else (some false)) = some r := H
       have A7 := q04.mk A70
       clear A70
       by_cases c8 : t123 = true
       ·subst c8
        have H1 : (block_Order.l0 k1 l0 (wrap64 (x3_1 + 1))) = some r := by rw [if_pos rfl] at H; exact H
        clear H
        have H := H1
        clear H1
        have H' := q04.mk H
        clear H
        try go_wp2
        have n0_ := q04.mk (q01 HB.out)
        clear HB
        have HB := n0_
        clear n0_
        have p120 : 0 ≤ ((ji3) : Int) := of_decide_eq_true (by first | (with_reducible assumption) | assumption)
        have q120 : (ji3) < (l0.length : Int) := of_decide_eq_true (by first | (with_reducible assumption) | assumption)
        obtain ⟨ad120, e120, hx120_0, hx120_1, hx120_2, hx120_3⟩ := q15 HR0.out (ji3) p120 q120
        have hw120_3 := hx120_3
        have hw120_2 := hx120_2
        have hw120_1 := hx120_1
        have hw120_0 := hx120_0
        cases e120
        replace hx120_0 := (HB.out.cell (World.block_lt_of_cell? w _ hx120_0)).trans hx120_0
        replace hx120_1 := (HB.out.cell (World.block_lt_of_cell? w _ hx120_1)).trans hx120_1
        replace hx120_2 := (HB.out.cell (World.block_lt_of_cell? w _ hx120_2)).trans hx120_2
        replace hx120_3 := (HB.out.cell (World.block_lt_of_cell? w _ hx120_3)).trans hx120_3
        replace p120 := eq_true p120
        replace q120 := eq_true q120
        have p121 : 0 ≤ (x3_1 : Int) := of_decide_eq_true (by first | (with_reducible assumption) | assumption)
        have q121 : x3_1 < (l0.length : Int) := of_decide_eq_true (by first | (with_reducible assumption) | assumption)
        obtain ⟨ad121, e121, hx121_0, hx121_1, hx121_2, hx121_3⟩ := q15 HR0.out x3_1 p121 q121
        have hw121_3 := hx121_3
        have hw121_2 := hx121_2
        have hw121_1 := hx121_1
        have hw121_0 := hx121_0
        obtain rfl : ad120 = ad121 := (by injection e121)
        replace hx121_0 := (HB.out.cell (World.block_lt_of_cell? w _ hx121_0)).trans hx121_0
        replace hx121_1 := (HB.out.cell (World.block_lt_of_cell? w _ hx121_1)).trans hx121_1
        replace hx121_2 := (HB.out.cell (World.block_lt_of_cell? w _ hx121_2)).trans hx121_2
        replace hx121_3 := (HB.out.cell (World.block_lt_of_cell? w _ hx121_3)).trans hx121_3
        replace p121 := eq_true p121
        replace q121 := eq_true q121
        have p122 : 0 ≤ (x3_1 : Int) := of_decide_eq_true (by first | (with_reducible assumption) | assumption)
        have q122 : x3_1 < (l0.length : Int) := of_decide_eq_true (by first | (with_reducible assumption) | assumption)
        obtain ⟨ad122, e122, hx122_0, hx122_1, hx122_2, hx122_3⟩ := q15 HR0.out x3_1 p122 q122
        have hw122_3 := hx122_3
        have hw122_2 := hx122_2
        have hw122_1 := hx122_1
        have hw122_0 := hx122_0
        obtain rfl : ad120 = ad122 := (by injection e122)
        replace hx122_0 := (HB.out.cell (World.block_lt_of_cell? w _ hx122_0)).trans hx122_0
        replace hx122_1 := (HB.out.cell (World.block_lt_of_cell? w _ hx122_1)).trans hx122_1
        replace hx122_2 := (HB.out.cell (World.block_lt_of_cell? w _ hx122_2)).trans hx122_2
        replace hx122_3 := (HB.out.cell (World.block_lt_of_cell? w _ hx122_3)).trans hx122_3
        replace p122 := eq_true p122
        replace q122 := eq_true q122
        refine start_ (n := 17) (S := fun w' => w'.cell? (ad120.add (((ji3)).toNat * 4)) = some (.string ((q0i l0 (ji3)).f0)) ∧ w'.cell? ⟨(ad120.add (((ji3)).toNat * 4)).block, (ad120.add (((ji3)).toNat * 4)).off + 1, none⟩ = some (.int .u64 ((q0i l0 (ji3)).f1)) ∧ w'.cell? ⟨(ad120.add (((ji3)).toNat * 4)).block, (ad120.add (((ji3)).toNat * 4)).off + 2, none⟩ = some (.int .i64 ((q0i l0 (ji3)).f2)) ∧ w'.cell? ⟨(ad120.add (((ji3)).toNat * 4)).block, (ad120.add (((ji3)).toNat * 4)).off + 3, none⟩ = some (.string ((q0i l0 (ji3)).f3)) ∧ w'.cell? (ad120.add ((x3_1).toNat * 4)) = some (.string ((q0i l0 x3_1).f0)) ∧ w'.cell? ⟨(ad120.add ((x3_1).toNat * 4)).block, (ad120.add ((x3_1).toNat * 4)).off + 1, none⟩ = some (.int .u64 ((q0i l0 x3_1).f1)) ∧ w'.cell? ⟨(ad120.add ((x3_1).toNat * 4)).block, (ad120.add ((x3_1).toNat * 4)).off + 2, none⟩ = some (.int .i64 ((q0i l0 x3_1).f2)) ∧ w'.cell? ⟨(ad120.add ((x3_1).toNat * 4)).block, (ad120.add ((x3_1).toNat * 4)).off + 3, none⟩ = some (.string ((q0i l0 x3_1).f3)) ∧ w'.cell? (ad120.add ((x3_1).toNat * 4)) = some (.string ((q0i l0 x3_1).f0)) ∧ w'.cell? ⟨(ad120.add ((x3_1).toNat * 4)).block, (ad120.add ((x3_1).toNat * 4)).off + 1, none⟩ = some (.int .u64 ((q0i l0 x3_1).f1)) ∧ w'.cell? ⟨(ad120.add ((x3_1).toNat * 4)).block, (ad120.add ((x3_1).toNat * 4)).off + 2, none⟩ = some (.int .i64 ((q0i l0 x3_1).f2)) ∧ w'.cell? ⟨(ad120.add ((x3_1).toNat * 4)).block, (ad120.add ((x3_1).toNat * 4)).off + 3, none⟩ = some (.string ((q0i l0 x3_1).f3))) (ds := []) #[false, false, false, false, false, false, false, false, false, false, false, false, false, false, false, false, false] (by kernel_rfl) rfl rfl ⟨((HB.out.cell (World.block_lt_of_cell? w _ hw120_0)).trans hw120_0), ((HB.out.cell (World.block_lt_of_cell? w _ hw120_1)).trans hw120_1), ((HB.out.cell (World.block_lt_of_cell? w _ hw120_2)).trans hw120_2), ((HB.out.cell (World.block_lt_of_cell? w _ hw120_3)).trans hw120_3), ((HB.out.cell (World.block_lt_of_cell? w _ hw121_0)).trans hw121_0), ((HB.out.cell (World.block_lt_of_cell? w _ hw121_1)).trans hw121_1), ((HB.out.cell (World.block_lt_of_cell? w _ hw121_2)).trans hw121_2), ((HB.out.cell (World.block_lt_of_cell? w _ hw121_3)).trans hw121_3), ((HB.out.cell (World.block_lt_of_cell? w _ hw122_0)).trans hw122_0), ((HB.out.cell (World.block_lt_of_cell? w _ hw122_1)).trans hw122_1), ((HB.out.cell (World.block_lt_of_cell? w _ hw122_2)).trans hw122_2), ((HB.out.cell (World.block_lt_of_cell? w _ hw122_3)).trans hw122_3)⟩ (fun hHeld => ?_); refine q16 block_Order.tab4 block_Order.bits4 (fun HT_ HW_ => ?_)
        generalize wr.drew = w9 at HB hx120_0 hx120_1 hx120_2 hx120_3 hx121_0 hx121_1 hx121_2 hx121_3 hx122_0 hx122_1 hx122_2 hx122_3 hHeld ⊢
        refine pure_ (i := 0) (N := some 10) (v := ?_) (a' := ?_) #[true, false, false, false, false, false, false, false, false, false, false, false, false, false, false, false, false] rfl rfl (q0j HT_.out (by kernel_rfl)) (fun _ _ _ h => h) (Or.inl ⟨by rfl, ?_⟩) ?_ ?_
        rotate_left
        ·intro w'
         go_simp
         with_reducible rfl
        rotate_left
        ·simp only [Act.put, qa15, qb15, qc15, i64_w, i32_w]
         rfl
        refine pure_ (i := 1) (N := some 11) (v := ?_) (a' := ?_) #[true, true, false, false, false, false, false, false, false, false, false, false, false, false, false, false, false] rfl rfl (q0j HT_.out (by kernel_rfl)) (fun _ _ _ h => h) (Or.inl ⟨by rfl, ?_⟩) ?_ ?_
        rotate_left
        ·intro w'
         go_simp
         with_reducible rfl
        rotate_left
        ·simp only [Act.put, qa15, qb15, qc15, i64_w, i32_w]
         rfl
        refine pure_ (i := 2) (N := some 12) (v := ?_) (a' := ?_) #[true, true, true, false, false, false, false, false, false, false, false, false, false, false, false, false, false] rfl rfl (q0j HT_.out (by kernel_rfl)) (fun _ _ _ h => h) (Or.inl ⟨by rfl, ?_⟩) ?_ ?_
        rotate_left
        ·intro w'
         go_simp
         with_reducible rfl
        rotate_left
        ·simp only [Act.put, qa15, qb15, qc15, i64_w, i32_w]
         rfl
        refine pure_ (i := 3) (N := some 13) (v := ?_) (a' := ?_) #[true, true, true, true, false, false, false, false, false, false, false, false, false, false, false, false, false] rfl rfl (q0j HT_.out (by kernel_rfl)) (fun _ _ _ h => h) (Or.inl ⟨by rfl, ?_⟩) ?_ ?_
        rotate_left
        ·intro w'
         go_simp
         with_reducible rfl
        rotate_left
        ·simp only [Act.put, qa15, qb15, qc15, i64_w, i32_w]
         rfl
        refine pure_ (i := 5) (N := some 15) (v := ?_) (a' := ?_) #[true, true, true, true, false, true, false, false, false, false, false, false, false, false, false, false, false] rfl rfl (q0j HT_.out (by kernel_rfl)) (fun _ _ _ h => h) (Or.inl ⟨by rfl, ?_⟩) ?_ ?_
        rotate_left
        ·intro w'
         go_simp
         with_reducible rfl
        rotate_left
        ·simp only [Act.put, qa15, qb15, qc15, i64_w, i32_w]
         rfl
        refine pure_ (i := 6) (N := some 16) (v := ?_) (a' := ?_) #[true, true, true, true, false, true, true, false, false, false, false, false, false, false, false, false, false] rfl rfl (q0j HT_.out (by kernel_rfl)) (fun _ _ _ h => h) (Or.inl ⟨by rfl, ?_⟩) ?_ ?_
        rotate_left
        ·intro w'
         go_simp
         with_reducible rfl
        rotate_left
        ·simp only [Act.put, qa15, qb15, qc15, i64_w, i32_w]
         rfl
        refine pure_ (i := 7) (N := some 17) (v := ?_) (a' := ?_) #[true, true, true, true, false, true, true, true, false, false, false, false, false, false, false, false, false] rfl rfl (q0j HT_.out (by kernel_rfl)) (fun _ _ _ h => h) (Or.inl ⟨by rfl, ?_⟩) ?_ ?_
        rotate_left
        ·intro w'
         go_simp
         with_reducible rfl
        rotate_left
        ·simp only [Act.put, qa15, qb15, qc15, i64_w, i32_w]
         rfl
        refine pure_ (i := 8) (N := some 18) (v := ?_) (a' := ?_) #[true, true, true, true, false, true, true, true, true, false, false, false, false, false, false, false, false] rfl rfl (q0j HT_.out (by kernel_rfl)) (fun _ _ _ h => h) (Or.inl ⟨by rfl, ?_⟩) ?_ ?_
        rotate_left
        ·intro w'
         go_simp
         with_reducible rfl
        rotate_left
        ·simp only [Act.put, qa15, qb15, qc15, i64_w, i32_w]
         rfl
        refine pure_ (i := 10) (N := some 20) (v := ?_) (a' := ?_) #[true, true, true, true, false, true, true, true, true, false, true, false, false, false, false, false, false] rfl rfl (q0j HT_.out (by kernel_rfl)) (fun _ _ _ h => h) (Or.inl ⟨by rfl, ?_⟩) ?_ ?_
        rotate_left
        ·intro w'
         go_simp
         with_reducible rfl
        rotate_left
        ·simp only [Act.put, qa15, qb15, qc15, i64_w, i32_w]
         rfl
        refine pure_ (i := 11) (N := some 21) (v := ?_) (a' := ?_) #[true, true, true, true, false, true, true, true, true, false, true, true, false, false, false, false, false] rfl rfl (q0j HT_.out (by kernel_rfl)) (fun _ _ _ h => h) (Or.inl ⟨by rfl, ?_⟩) ?_ ?_
        rotate_left
        ·intro w'
         go_simp
         with_reducible rfl
        rotate_left
        ·simp only [Act.put, qa15, qb15, qc15, i64_w, i32_w]
         rfl
        refine pure_ (i := 12) (N := some 22) (v := ?_) (a' := ?_) #[true, true, true, true, false, true, true, true, true, false, true, true, true, false, false, false, false] rfl rfl (q0j HT_.out (by kernel_rfl)) (fun _ _ _ h => h) (Or.inl ⟨by rfl, ?_⟩) ?_ ?_
        rotate_left
        ·intro w'
         go_simp
         with_reducible rfl
        rotate_left
        ·simp only [Act.put, qa15, qb15, qc15, i64_w, i32_w]
         rfl
        refine pure_ (i := 13) (N := some 23) (v := ?_) (a' := ?_) #[true, true, true, true, false, true, true, true, true, false, true, true, true, true, false, false, false] rfl rfl (q0j HT_.out (by kernel_rfl)) (fun _ _ _ h => h) (Or.inl ⟨by rfl, ?_⟩) ?_ ?_
        rotate_left
        ·intro w'
         go_simp
         with_reducible rfl
        rotate_left
        ·simp only [Act.put, qa15, qb15, qc15, i64_w, i32_w]
         rfl
        refine take_ (i := 4) (N := some 14) (v := ?_) (a' := ?_) #[true, true, true, true, true, true, true, true, true, false, true, true, true, true, false, false, false] rfl rfl (q0w HT_.out HW_.out (by kernel_rfl)) (fun _ _ _ h => h) (Or.inl ⟨by rfl, ?_⟩) hHeld ?_ ?_
        rotate_left
        ·rintro w' ⟨s0, s1, s2, s3, s4, s5, s6, s7, s8, s9, s10, s11⟩
         go_simp
         with_reducible rfl
        rotate_left
        ·simp only [Act.put, qa15, qb15, qc15, i64_w, i32_w]
         rfl
        refine take_ (i := 9) (N := some 19) (v := ?_) (a' := ?_) #[true, true, true, true, true, true, true, true, true, true, true, true, true, true, false, false, false] rfl rfl (q0w HT_.out HW_.out (by kernel_rfl)) (fun _ _ _ h => h) (Or.inl ⟨by rfl, ?_⟩) hHeld ?_ ?_
        rotate_left
        ·rintro w' ⟨s0, s1, s2, s3, s4, s5, s6, s7, s8, s9, s10, s11⟩
         go_simp
         with_reducible rfl
        rotate_left
        ·simp only [Act.put, qa15, qb15, qc15, i64_w, i32_w]
         rfl
        refine take_ (i := 14) (N := some 24) (v := ?_) (a' := ?_) #[true, true, true, true, true, true, true, true, true, true, true, true, true, true, true, false, false] rfl rfl (q0w HT_.out HW_.out (by kernel_rfl)) (fun _ _ _ h => h) (Or.inl ⟨by rfl, ?_⟩) hHeld ?_ ?_
        rotate_left
        ·rintro w' ⟨s0, s1, s2, s3, s4, s5, s6, s7, s8, s9, s10, s11⟩
         go_simp
         with_reducible rfl
        rotate_left
        ·simp only [Act.put, qa15, qb15, qc15, i64_w, i32_w]
         rfl
        refine one_ (i := 15) (N := some 25) #[true, true, true, true, true, true, true, true, true, true, true, true, true, true, true, true, false] rfl rfl (q13 HT_.out (by kernel_rfl)) (by decide) (fun K hK => ?_)
        refine goes_ Try.func78 (by kernel_rfl) rfl #[.agg #[.string ((q0i l0 (ji3)).f0), .int .u64 ((q0i l0 (ji3)).f1), .int .i64 ((q0i l0 (ji3)).f2), .string ((q0i l0 (ji3)).f3)], .string ((q0i l0 x3_1).f0), .int .u64 ((q0i l0 x3_1).f1)] (by rfl) rfl rfl (by (try simp only [List.map_toArray, List.map_cons, List.map_nil]); first | done | (simp only [hji3]; rfl) | rfl | (simp only [List.length_drop, List.length_take]; rfl)) ?_
        with_reducible refine (block_ahead.calls ((q0i l0 (ji3)).f0) ((q0i l0 (ji3)).f1) ((q0i l0 (ji3)).f2) ((q0i l0 (ji3)).f3) ((q0i l0 x3_1).f0) ((q0i l0 x3_1).f1) true _ A7.out).mono ?_
        rintro e w10 ⟨rfl, hb⟩
        refine ⟨_, rfl, ?_⟩
        have n0_ := q04.mk (q0a (by repeat (first | (with_reducible first | exact HB.out | apply q02 | apply q00 | apply q01) | exact HB.out)) hb)
        clear HB
        have HB := n0_
        clear n0_
        (try clear hb)
        (try clear hb2)
        (try clear hk)
        (try clear hi)
        refine hK.out _ _ ⟨((HB.out.cell (World.block_lt_of_cell? w _ hw120_0)).trans hw120_0), ((HB.out.cell (World.block_lt_of_cell? w _ hw120_1)).trans hw120_1), ((HB.out.cell (World.block_lt_of_cell? w _ hw120_2)).trans hw120_2), ((HB.out.cell (World.block_lt_of_cell? w _ hw120_3)).trans hw120_3), ((HB.out.cell (World.block_lt_of_cell? w _ hw121_0)).trans hw121_0), ((HB.out.cell (World.block_lt_of_cell? w _ hw121_1)).trans hw121_1), ((HB.out.cell (World.block_lt_of_cell? w _ hw121_2)).trans hw121_2), ((HB.out.cell (World.block_lt_of_cell? w _ hw121_3)).trans hw121_3), ((HB.out.cell (World.block_lt_of_cell? w _ hw122_0)).trans hw122_0), ((HB.out.cell (World.block_lt_of_cell? w _ hw122_1)).trans hw122_1), ((HB.out.cell (World.block_lt_of_cell? w _ hw122_2)).trans hw122_2), ((HB.out.cell (World.block_lt_of_cell? w _ hw122_3)).trans hw122_3)⟩ (fun hHeld => ?_)
        clear hK K
        refine norm_ (a' := ?_) ?_ ?_
        rotate_left
        ·show Act.put _ (some 25) _ = _
         simp only [Act.put, qa15, qb15, qc15, i64_w, i32_w]
         rfl
        refine pure_ (i := 16) (N := some 26) (v := ?_) (a' := ?_) #[true, true, true, true, true, true, true, true, true, true, true, true, true, true, true, true, true] rfl rfl (q0j HT_.out (by kernel_rfl)) (fun _ _ _ h => h) (Or.inl ⟨by rfl, ?_⟩) ?_ ?_
        rotate_left
        ·intro w'
         go_simp
         with_reducible rfl
        rotate_left
        ·simp only [Act.put, qa15, qb15, qc15, i64_w, i32_w]
         rfl
        refine done_ (q1u HT_.out (by kernel_rfl)) ?_
        try go_wp2
        go_roundg k1
        case measure => have := HK1.out; omega
        case rel => exact ⟨(wrap64 (x3_1 + 1)), (by first | rfl | (simp; done) | (simp [*]; done)), H', ⟨by have := HK1.out; omega⟩, ⟨by repeat (first | (with_reducible first | exact HB.out | apply q02 | apply q00 | apply q01) | exact HB.out)⟩⟩
       ·replace c8 := Bool.eq_false_iff.mpr c8
        subst c8
        have H1 : (some false) = some r := by rw [if_neg (show ¬ (false = true) by decide)] at H; exact H
        clear H
        have H := H1
        clear H1
        obtain rfl := Option.some.inj H
        try go_wp2
        have n0_ := q04.mk (q01 HB.out)
        clear HB
        have HB := n0_
        clear n0_
        have p120 : 0 ≤ ((ji3) : Int) := of_decide_eq_true (by first | (with_reducible assumption) | assumption)
        have q120 : (ji3) < (l0.length : Int) := of_decide_eq_true (by first | (with_reducible assumption) | assumption)
        obtain ⟨ad120, e120, hx120_0, hx120_1, hx120_2, hx120_3⟩ := q15 HR0.out (ji3) p120 q120
        have hw120_3 := hx120_3
        have hw120_2 := hx120_2
        have hw120_1 := hx120_1
        have hw120_0 := hx120_0
        cases e120
        replace hx120_0 := (HB.out.cell (World.block_lt_of_cell? w _ hx120_0)).trans hx120_0
        replace hx120_1 := (HB.out.cell (World.block_lt_of_cell? w _ hx120_1)).trans hx120_1
        replace hx120_2 := (HB.out.cell (World.block_lt_of_cell? w _ hx120_2)).trans hx120_2
        replace hx120_3 := (HB.out.cell (World.block_lt_of_cell? w _ hx120_3)).trans hx120_3
        replace p120 := eq_true p120
        replace q120 := eq_true q120
        have p121 : 0 ≤ (x3_1 : Int) := of_decide_eq_true (by first | (with_reducible assumption) | assumption)
        have q121 : x3_1 < (l0.length : Int) := of_decide_eq_true (by first | (with_reducible assumption) | assumption)
        obtain ⟨ad121, e121, hx121_0, hx121_1, hx121_2, hx121_3⟩ := q15 HR0.out x3_1 p121 q121
        have hw121_3 := hx121_3
        have hw121_2 := hx121_2
        have hw121_1 := hx121_1
        have hw121_0 := hx121_0
        obtain rfl : ad120 = ad121 := (by injection e121)
        replace hx121_0 := (HB.out.cell (World.block_lt_of_cell? w _ hx121_0)).trans hx121_0
        replace hx121_1 := (HB.out.cell (World.block_lt_of_cell? w _ hx121_1)).trans hx121_1
        replace hx121_2 := (HB.out.cell (World.block_lt_of_cell? w _ hx121_2)).trans hx121_2
        replace hx121_3 := (HB.out.cell (World.block_lt_of_cell? w _ hx121_3)).trans hx121_3
        replace p121 := eq_true p121
        replace q121 := eq_true q121
        have p122 : 0 ≤ (x3_1 : Int) := of_decide_eq_true (by first | (with_reducible assumption) | assumption)
        have q122 : x3_1 < (l0.length : Int) := of_decide_eq_true (by first | (with_reducible assumption) | assumption)
        obtain ⟨ad122, e122, hx122_0, hx122_1, hx122_2, hx122_3⟩ := q15 HR0.out x3_1 p122 q122
        have hw122_3 := hx122_3
        have hw122_2 := hx122_2
        have hw122_1 := hx122_1
        have hw122_0 := hx122_0
        obtain rfl : ad120 = ad122 := (by injection e122)
        replace hx122_0 := (HB.out.cell (World.block_lt_of_cell? w _ hx122_0)).trans hx122_0
        replace hx122_1 := (HB.out.cell (World.block_lt_of_cell? w _ hx122_1)).trans hx122_1
        replace hx122_2 := (HB.out.cell (World.block_lt_of_cell? w _ hx122_2)).trans hx122_2
        replace hx122_3 := (HB.out.cell (World.block_lt_of_cell? w _ hx122_3)).trans hx122_3
        replace p122 := eq_true p122
        replace q122 := eq_true q122
        refine start_ (n := 17) (S := fun w' => w'.cell? (ad120.add (((ji3)).toNat * 4)) = some (.string ((q0i l0 (ji3)).f0)) ∧ w'.cell? ⟨(ad120.add (((ji3)).toNat * 4)).block, (ad120.add (((ji3)).toNat * 4)).off + 1, none⟩ = some (.int .u64 ((q0i l0 (ji3)).f1)) ∧ w'.cell? ⟨(ad120.add (((ji3)).toNat * 4)).block, (ad120.add (((ji3)).toNat * 4)).off + 2, none⟩ = some (.int .i64 ((q0i l0 (ji3)).f2)) ∧ w'.cell? ⟨(ad120.add (((ji3)).toNat * 4)).block, (ad120.add (((ji3)).toNat * 4)).off + 3, none⟩ = some (.string ((q0i l0 (ji3)).f3)) ∧ w'.cell? (ad120.add ((x3_1).toNat * 4)) = some (.string ((q0i l0 x3_1).f0)) ∧ w'.cell? ⟨(ad120.add ((x3_1).toNat * 4)).block, (ad120.add ((x3_1).toNat * 4)).off + 1, none⟩ = some (.int .u64 ((q0i l0 x3_1).f1)) ∧ w'.cell? ⟨(ad120.add ((x3_1).toNat * 4)).block, (ad120.add ((x3_1).toNat * 4)).off + 2, none⟩ = some (.int .i64 ((q0i l0 x3_1).f2)) ∧ w'.cell? ⟨(ad120.add ((x3_1).toNat * 4)).block, (ad120.add ((x3_1).toNat * 4)).off + 3, none⟩ = some (.string ((q0i l0 x3_1).f3)) ∧ w'.cell? (ad120.add ((x3_1).toNat * 4)) = some (.string ((q0i l0 x3_1).f0)) ∧ w'.cell? ⟨(ad120.add ((x3_1).toNat * 4)).block, (ad120.add ((x3_1).toNat * 4)).off + 1, none⟩ = some (.int .u64 ((q0i l0 x3_1).f1)) ∧ w'.cell? ⟨(ad120.add ((x3_1).toNat * 4)).block, (ad120.add ((x3_1).toNat * 4)).off + 2, none⟩ = some (.int .i64 ((q0i l0 x3_1).f2)) ∧ w'.cell? ⟨(ad120.add ((x3_1).toNat * 4)).block, (ad120.add ((x3_1).toNat * 4)).off + 3, none⟩ = some (.string ((q0i l0 x3_1).f3))) (ds := []) #[false, false, false, false, false, false, false, false, false, false, false, false, false, false, false, false, false] (by kernel_rfl) rfl rfl ⟨((HB.out.cell (World.block_lt_of_cell? w _ hw120_0)).trans hw120_0), ((HB.out.cell (World.block_lt_of_cell? w _ hw120_1)).trans hw120_1), ((HB.out.cell (World.block_lt_of_cell? w _ hw120_2)).trans hw120_2), ((HB.out.cell (World.block_lt_of_cell? w _ hw120_3)).trans hw120_3), ((HB.out.cell (World.block_lt_of_cell? w _ hw121_0)).trans hw121_0), ((HB.out.cell (World.block_lt_of_cell? w _ hw121_1)).trans hw121_1), ((HB.out.cell (World.block_lt_of_cell? w _ hw121_2)).trans hw121_2), ((HB.out.cell (World.block_lt_of_cell? w _ hw121_3)).trans hw121_3), ((HB.out.cell (World.block_lt_of_cell? w _ hw122_0)).trans hw122_0), ((HB.out.cell (World.block_lt_of_cell? w _ hw122_1)).trans hw122_1), ((HB.out.cell (World.block_lt_of_cell? w _ hw122_2)).trans hw122_2), ((HB.out.cell (World.block_lt_of_cell? w _ hw122_3)).trans hw122_3)⟩ (fun hHeld => ?_); refine q16 block_Order.tab4 block_Order.bits4 (fun HT_ HW_ => ?_)
        generalize wr.drew = w11 at HB hx120_0 hx120_1 hx120_2 hx120_3 hx121_0 hx121_1 hx121_2 hx121_3 hx122_0 hx122_1 hx122_2 hx122_3 hHeld ⊢
        refine pure_ (i := 0) (N := some 10) (v := ?_) (a' := ?_) #[true, false, false, false, false, false, false, false, false, false, false, false, false, false, false, false, false] rfl rfl (q0j HT_.out (by kernel_rfl)) (fun _ _ _ h => h) (Or.inl ⟨by rfl, ?_⟩) ?_ ?_
        rotate_left
        ·intro w'
         go_simp
         with_reducible rfl
        rotate_left
        ·simp only [Act.put, qa15, qb15, qc15, i64_w, i32_w]
         rfl
        refine pure_ (i := 1) (N := some 11) (v := ?_) (a' := ?_) #[true, true, false, false, false, false, false, false, false, false, false, false, false, false, false, false, false] rfl rfl (q0j HT_.out (by kernel_rfl)) (fun _ _ _ h => h) (Or.inl ⟨by rfl, ?_⟩) ?_ ?_
        rotate_left
        ·intro w'
         go_simp
         with_reducible rfl
        rotate_left
        ·simp only [Act.put, qa15, qb15, qc15, i64_w, i32_w]
         rfl
        refine pure_ (i := 2) (N := some 12) (v := ?_) (a' := ?_) #[true, true, true, false, false, false, false, false, false, false, false, false, false, false, false, false, false] rfl rfl (q0j HT_.out (by kernel_rfl)) (fun _ _ _ h => h) (Or.inl ⟨by rfl, ?_⟩) ?_ ?_
        rotate_left
        ·intro w'
         go_simp
         with_reducible rfl
        rotate_left
        ·simp only [Act.put, qa15, qb15, qc15, i64_w, i32_w]
         rfl
        refine pure_ (i := 3) (N := some 13) (v := ?_) (a' := ?_) #[true, true, true, true, false, false, false, false, false, false, false, false, false, false, false, false, false] rfl rfl (q0j HT_.out (by kernel_rfl)) (fun _ _ _ h => h) (Or.inl ⟨by rfl, ?_⟩) ?_ ?_
        rotate_left
        ·intro w'
         go_simp
         with_reducible rfl
        rotate_left
        ·simp only [Act.put, qa15, qb15, qc15, i64_w, i32_w]
         rfl
        refine pure_ (i := 5) (N := some 15) (v := ?_) (a' := ?_) #[true, true, true, true, false, true, false, false, false, false, false, false, false, false, false, false, false] rfl rfl (q0j HT_.out (by kernel_rfl)) (fun _ _ _ h => h) (Or.inl ⟨by rfl, ?_⟩) ?_ ?_
        rotate_left
        ·intro w'
         go_simp
         with_reducible rfl
        rotate_left
        ·simp only [Act.put, qa15, qb15, qc15, i64_w, i32_w]
         rfl
        refine pure_ (i := 6) (N := some 16) (v := ?_) (a' := ?_) #[true, true, true, true, false, true, true, false, false, false, false, false, false, false, false, false, false] rfl rfl (q0j HT_.out (by kernel_rfl)) (fun _ _ _ h => h) (Or.inl ⟨by rfl, ?_⟩) ?_ ?_
        rotate_left
        ·intro w'
         go_simp
         with_reducible rfl
        rotate_left
        ·simp only [Act.put, qa15, qb15, qc15, i64_w, i32_w]
         rfl
        refine pure_ (i := 7) (N := some 17) (v := ?_) (a' := ?_) #[true, true, true, true, false, true, true, true, false, false, false, false, false, false, false, false, false] rfl rfl (q0j HT_.out (by kernel_rfl)) (fun _ _ _ h => h) (Or.inl ⟨by rfl, ?_⟩) ?_ ?_
        rotate_left
        ·intro w'
         go_simp
         with_reducible rfl
        rotate_left
        ·simp only [Act.put, qa15, qb15, qc15, i64_w, i32_w]
         rfl
        refine pure_ (i := 8) (N := some 18) (v := ?_) (a' := ?_) #[true, true, true, true, false, true, true, true, true, false, false, false, false, false, false, false, false] rfl rfl (q0j HT_.out (by kernel_rfl)) (fun _ _ _ h => h) (Or.inl ⟨by rfl, ?_⟩) ?_ ?_
        rotate_left
        ·intro w'
         go_simp
         with_reducible rfl
        rotate_left
        ·simp only [Act.put, qa15, qb15, qc15, i64_w, i32_w]
         rfl
        refine pure_ (i := 10) (N := some 20) (v := ?_) (a' := ?_) #[true, true, true, true, false, true, true, true, true, false, true, false, false, false, false, false, false] rfl rfl (q0j HT_.out (by kernel_rfl)) (fun _ _ _ h => h) (Or.inl ⟨by rfl, ?_⟩) ?_ ?_
        rotate_left
        ·intro w'
         go_simp
         with_reducible rfl
        rotate_left
        ·simp only [Act.put, qa15, qb15, qc15, i64_w, i32_w]
         rfl
        refine pure_ (i := 11) (N := some 21) (v := ?_) (a' := ?_) #[true, true, true, true, false, true, true, true, true, false, true, true, false, false, false, false, false] rfl rfl (q0j HT_.out (by kernel_rfl)) (fun _ _ _ h => h) (Or.inl ⟨by rfl, ?_⟩) ?_ ?_
        rotate_left
        ·intro w'
         go_simp
         with_reducible rfl
        rotate_left
        ·simp only [Act.put, qa15, qb15, qc15, i64_w, i32_w]
         rfl
        refine pure_ (i := 12) (N := some 22) (v := ?_) (a' := ?_) #[true, true, true, true, false, true, true, true, true, false, true, true, true, false, false, false, false] rfl rfl (q0j HT_.out (by kernel_rfl)) (fun _ _ _ h => h) (Or.inl ⟨by rfl, ?_⟩) ?_ ?_
        rotate_left
        ·intro w'
         go_simp
         with_reducible rfl
        rotate_left
        ·simp only [Act.put, qa15, qb15, qc15, i64_w, i32_w]
         rfl
        refine pure_ (i := 13) (N := some 23) (v := ?_) (a' := ?_) #[true, true, true, true, false, true, true, true, true, false, true, true, true, true, false, false, false] rfl rfl (q0j HT_.out (by kernel_rfl)) (fun _ _ _ h => h) (Or.inl ⟨by rfl, ?_⟩) ?_ ?_
        rotate_left
        ·intro w'
         go_simp
         with_reducible rfl
        rotate_left
        ·simp only [Act.put, qa15, qb15, qc15, i64_w, i32_w]
         rfl
        refine take_ (i := 4) (N := some 14) (v := ?_) (a' := ?_) #[true, true, true, true, true, true, true, true, true, false, true, true, true, true, false, false, false] rfl rfl (q0w HT_.out HW_.out (by kernel_rfl)) (fun _ _ _ h => h) (Or.inl ⟨by rfl, ?_⟩) hHeld ?_ ?_
        rotate_left
        ·rintro w' ⟨s0, s1, s2, s3, s4, s5, s6, s7, s8, s9, s10, s11⟩
         go_simp
         with_reducible rfl
        rotate_left
        ·simp only [Act.put, qa15, qb15, qc15, i64_w, i32_w]
         rfl
        refine take_ (i := 9) (N := some 19) (v := ?_) (a' := ?_) #[true, true, true, true, true, true, true, true, true, true, true, true, true, true, false, false, false] rfl rfl (q0w HT_.out HW_.out (by kernel_rfl)) (fun _ _ _ h => h) (Or.inl ⟨by rfl, ?_⟩) hHeld ?_ ?_
        rotate_left
        ·rintro w' ⟨s0, s1, s2, s3, s4, s5, s6, s7, s8, s9, s10, s11⟩
         go_simp
         with_reducible rfl
        rotate_left
        ·simp only [Act.put, qa15, qb15, qc15, i64_w, i32_w]
         rfl
        refine take_ (i := 14) (N := some 24) (v := ?_) (a' := ?_) #[true, true, true, true, true, true, true, true, true, true, true, true, true, true, true, false, false] rfl rfl (q0w HT_.out HW_.out (by kernel_rfl)) (fun _ _ _ h => h) (Or.inl ⟨by rfl, ?_⟩) hHeld ?_ ?_
        rotate_left
        ·rintro w' ⟨s0, s1, s2, s3, s4, s5, s6, s7, s8, s9, s10, s11⟩
         go_simp
         with_reducible rfl
        rotate_left
        ·simp only [Act.put, qa15, qb15, qc15, i64_w, i32_w]
         rfl
        refine one_ (i := 15) (N := some 25) #[true, true, true, true, true, true, true, true, true, true, true, true, true, true, true, true, false] rfl rfl (q13 HT_.out (by kernel_rfl)) (by decide) (fun K hK => ?_)
        refine goes_ Try.func78 (by kernel_rfl) rfl #[.agg #[.string ((q0i l0 (ji3)).f0), .int .u64 ((q0i l0 (ji3)).f1), .int .i64 ((q0i l0 (ji3)).f2), .string ((q0i l0 (ji3)).f3)], .string ((q0i l0 x3_1).f0), .int .u64 ((q0i l0 x3_1).f1)] (by rfl) rfl rfl (by (try simp only [List.map_toArray, List.map_cons, List.map_nil]); first | done | (simp only [hji3]; rfl) | rfl | (simp only [List.length_drop, List.length_take]; rfl)) ?_
        with_reducible refine (block_ahead.calls ((q0i l0 (ji3)).f0) ((q0i l0 (ji3)).f1) ((q0i l0 (ji3)).f2) ((q0i l0 (ji3)).f3) ((q0i l0 x3_1).f0) ((q0i l0 x3_1).f1) false _ A7.out).mono ?_
        rintro e w12 ⟨rfl, hb⟩
        refine ⟨_, rfl, ?_⟩
        have n0_ := q04.mk (q0a (by repeat (first | (with_reducible first | exact HB.out | apply q02 | apply q00 | apply q01) | exact HB.out)) hb)
        clear HB
        have HB := n0_
        clear n0_
        (try clear hb)
        (try clear hb2)
        (try clear hk)
        (try clear hi)
        refine hK.out _ _ ⟨((HB.out.cell (World.block_lt_of_cell? w _ hw120_0)).trans hw120_0), ((HB.out.cell (World.block_lt_of_cell? w _ hw120_1)).trans hw120_1), ((HB.out.cell (World.block_lt_of_cell? w _ hw120_2)).trans hw120_2), ((HB.out.cell (World.block_lt_of_cell? w _ hw120_3)).trans hw120_3), ((HB.out.cell (World.block_lt_of_cell? w _ hw121_0)).trans hw121_0), ((HB.out.cell (World.block_lt_of_cell? w _ hw121_1)).trans hw121_1), ((HB.out.cell (World.block_lt_of_cell? w _ hw121_2)).trans hw121_2), ((HB.out.cell (World.block_lt_of_cell? w _ hw121_3)).trans hw121_3), ((HB.out.cell (World.block_lt_of_cell? w _ hw122_0)).trans hw122_0), ((HB.out.cell (World.block_lt_of_cell? w _ hw122_1)).trans hw122_1), ((HB.out.cell (World.block_lt_of_cell? w _ hw122_2)).trans hw122_2), ((HB.out.cell (World.block_lt_of_cell? w _ hw122_3)).trans hw122_3)⟩ (fun hHeld => ?_)
        clear hK K
        refine norm_ (a' := ?_) ?_ ?_
        rotate_left
        ·show Act.put _ (some 25) _ = _
         simp only [Act.put, qa15, qb15, qc15, i64_w, i32_w]
         rfl
        refine pure_ (i := 16) (N := some 26) (v := ?_) (a' := ?_) #[true, true, true, true, true, true, true, true, true, true, true, true, true, true, true, true, true] rfl rfl (q0j HT_.out (by kernel_rfl)) (fun _ _ _ h => h) (Or.inl ⟨by rfl, ?_⟩) ?_ ?_
        rotate_left
        ·intro w'
         go_simp
         with_reducible rfl
        rotate_left
        ·simp only [Act.put, qa15, qb15, qc15, i64_w, i32_w]
         rfl
        refine done_ (q1u HT_.out (by kernel_rfl)) ?_
        try go_wp2
        go_ret
        exact ⟨by first | rfl | (simp [q0c, q0b] <;> rfl) | (simp only [← hji3]; first | rfl | (simp [q0c, q0b] <;> rfl)) | (simp [*, q0c, q0b] <;> rfl), by repeat (first | (with_reducible first | exact HB.out | apply q02 | apply q00 | apply q01) | exact HB.out)⟩
      ·rw [if_neg c6] at H
       exact absurd H (by simp)
     ·rw [if_neg c5] at H
      exact absurd H (by simp)
    ·rw [if_neg c4] at H
     exact absurd H (by simp)
   ·rw [if_neg c2] at H
    have c2b0 : decide (x3_1 < (l0.length : Int)) = false := decide_eq_false c2
    clear c2
    obtain rfl := Option.some.inj H
    go_wp2
    go_ret
    exact ⟨by first | rfl | (simp [q0c, q0b] <;> rfl) | (simp [*, q0c, q0b] <;> rfl), by repeat (first | (with_reducible first | exact HB.out | apply q02 | apply q00 | apply q01) | exact HB.out)⟩
end Go.Proofs.Ytaigmemmgjlhgaa.Print
