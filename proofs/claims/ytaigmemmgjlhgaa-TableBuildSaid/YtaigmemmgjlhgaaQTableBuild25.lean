/- Texts of this claim, joined by a program of this session (wip/pack.py): TabRb, TabRm. -/
import Derived.Deep.RegionHeld3
import Derived.Deep.QuietTactic
import Derived.BigQuiet
import Derived.StillTailTactics
import Derived.Test.YtaigmemmgjlhgaaQTableBuild14
import Derived.Test.YtaigmemmgjlhgaaQTableBuild15
import Derived.Test.YtaigmemmgjlhgaaQTableBuild17
import Derived.Test.YtaigmemmgjlhgaaQTableBuild18
theorem qa25 {α : Type _} (l : List α) (i : Nat) (x : α) : l.toArray.setIfInBounds i x = (l.set i x).toArray := by simp
theorem qb25 {α : Type _} (l : List α) (x y : α) : (x :: l).set 0 y = y :: l := rfl
theorem qc25 {α : Type _} (l : List α) (n : Nat) (x y : α) : (x :: l).set (n + 1) y = x :: l.set n y := rfl
-- TabRb
namespace Go.Proofs.Ytaigmemmgjlhgaa.Tab
open Go.RowKit Aid Txt Print PLink Block Bits Go.Proofs.YtaigmemmgjlhgaaW.PrintWords
set_option linter.unusedSimpArgs false
set_option linter.unusedVariables false
theorem rPutUint_any (x : Int) (h0 : 0 ≤ x) (h1 : x < 18446744073709551616) (w : World) : Calls Try.prog 48 #[.int .u64 x] w fun e w' => e = .returned (.string (B (PCode.putUint x.toNat))) ∧ Below w.heap.size w w' := by
 obtain ⟨n, rfl⟩ := Int.eq_ofNat_of_zero_le h0
 obtain ⟨k, hk⟩ := (ref_put n (by omega)).rounds
 exact freshetref02_PutUint.calls k (n : Int) _ w hk
theorem rPutField_any (s : ByteArray) (hs : s.size ≤ 140737488355328) (w : World) : Calls Try.prog 47 #[.string s] w fun e w' => e = .returned (.string (B (PCode.putField (L s)))) ∧ Below w.heap.size w w' := by
 have h : Ev (fun k => freshetref02_PutField.f k s) (B (PCode.putField (L s))) := by
  unfold freshetref02_PutField.f
  rw [q0o (by omega) (by omega)]
  refine Ev.bind (ref_put s.size (by omega)) ?_
  have := putUint_fits s.size (by omega)
  have e : B (PCode.putUint s.size) ++ s = B (PCode.putField (L s)) := by
   apply L_inj; rw [q0t, L_B, L_B, PCode.putField, q0g]
  rw [if_pos (by omega), e]
  exact Ev.now _
 obtain ⟨k, hk⟩ := h.rounds
 exact freshetref02_PutField.calls k s _ w hk
theorem q1o (xs : List Int) (hx : xs.length ≤ 1000) (n : Nat) (hn : n = xs.length) (W : World) (b : Nat) (h : Blk W b 5 (nums .u8 xs).toArray) : (convert 55 9 (.slice (some ⟨b, 0, none⟩) n n)).run Try.prog W = .ok (.string (strOfNums xs)) W := by
 subst hn
 have hl : (nums .u8 xs).length = xs.length := by simp [nums]
 have h2 : W.ownsRow 0 5 1 (.slice (some ⟨b, 0, none⟩) xs.length xs.length) xs.length (nums .u8 xs) := by
  refine ⟨by rw [hl, Nat.mul_one], .inr ⟨b, xs.length, _, rfl, Nat.zero_le _, h, Nat.le_refl _, by unfold maxLen; omega, ?_, ?_⟩⟩
  ·rw [List.size_toArray, hl, Nat.mul_one]
  ·rw [List.toList_toArray, Nat.mul_one, ← hl, List.take_length]
 exact q14 (P := Try.prog) Try.underlying55 Try.underlying5 Try.underlying9 h2
theorem conv_four (a b c d : Int) (W : World) : (convert 55 9 (.slice (some ⟨W.heap.size, 0, none⟩) 4 4)).run Try.prog (W.alloc (.cells #[.int .u8 a, .int .u8 b, .int .u8 c, .int .u8 d] 5)) = .ok (.string (strOfNums [a, b, c, d])) (W.alloc (.cells #[.int .u8 a, .int .u8 b, .int .u8 c, .int .u8 d] 5)) :=
 q1o [a, b, c, d] (by simp) 4 rfl _ _ (Blk.new W 5 _)
theorem conv_one (a : Int) (W : World) : (convert 55 9 (.slice (some ⟨W.heap.size, 0, none⟩) 1 1)).run Try.prog (W.alloc (.cells #[.int .u8 a] 5)) = .ok (.string (strOfNums [a])) (W.alloc (.cells #[.int .u8 a] 5)) :=
 q1o [a] (by simp) 1 rfl _ _ (Blk.new W 5 _)
theorem conv_one_drew (a : Int) (W : World) : (convert 55 9 (.slice (some ⟨W.heap.size, 0, none⟩) 1 1)).run Try.prog (W.alloc (.cells #[.int .u8 a] 5)).drew = .ok (.string (strOfNums [a])) (W.alloc (.cells #[.int .u8 a] 5)).drew :=
 q1o [a] (by simp) 1 rfl _ _ (Blk.new W 5 _).drew
attribute [local go_sem] conv_four conv_one conv_one_drew
set_option maxRecDepth 100000 in
set_option maxHeartbeats 4000000 in
theorem rFour_any (n : Nat) (h : n < 9223372036854775808) (w : World) : Calls Try.prog 71 #[.int .i64 n] w fun e w' => e = .returned (.string (B (PBlock.four n))) ∧ Below w.heap.size w w' := by
 have t1 : ∀ c : Nat, 0 < c → IntKind.i64.wrap (Int.tdiv (n : Int) (c : Int)) = ((n / c : Nat) : Int) := by
  intro c hc
  rw [Int.tdiv_eq_ediv_of_nonneg (by omega), ← Int.natCast_ediv]
  have := Nat.div_le_self n c
  generalize n / c = z at *
  exact IntWalk.i64_in _ (by omega)
 have t2 : ∀ m : Nat, IntKind.u8.wrap (IntKind.i64.wrap (Int.tmod (m : Int) 256)) = ((m % 256 : Nat) : Int) := by
  intro m
  rw [Int.tmod_eq_emod_of_nonneg (by omega), IntWalk.i64_in _ (by omega), IntKind.wrap_u8]
  omega
 have q1 := t1 256 (by omega)
 have q2 := t1 65536 (by omega)
 have q3 := t1 16777216 (by omega)
 rw [show ((256 : Nat) : Int) = 256 from rfl] at q1
 rw [show ((65536 : Nat) : Int) = 65536 from rfl] at q2
 rw [show ((16777216 : Nat) : Int) = 16777216 from rfl] at q3
 have hb := (Below.refl w.heap.size w).alloc (Nat.le_refl _) (.cells #[.int .u8 ((n % 256 : Nat) : Int), .int .u8 ((n / 256 % 256 : Nat) : Int), .int .u8 ((n / 65536 % 256 : Nat) : Int), .int .u8 ((n / 16777216 % 256 : Nat) : Int)] 5)
 go_enter Try.func71, Try.ntmps71
 go_wp2_with fail
 go_ret
 exact ⟨rfl, hb⟩
theorem wpAnyH_more {P : Program} {md : Region.Mode} {ops : Array Oper} {Q : Exit → Act → World → Prop} {S S' : World → Prop} (h : ∀ w, S' w → S w) : ∀ (fuel : Nat) (listed : Array Bool) (a : Act) (w : World), wpAnyH P md ops Q S' fuel listed a w → wpAnyH P md ops Q S fuel listed a w
 | 0, _, _, _, H => H
 | fuel + 1, _, _, _, H => ⟨H.1, fun i hi => wpOp_mono (fun _ _ h' => ⟨h _ h'.1, wpAnyH_more h fuel _ _ _ h'.2⟩) (H.2 i hi)⟩
theorem common_at (a b : List UInt8) (n : Nat) (h : PBlock.common a b = n + PBlock.common (a.drop n) (b.drop n)) (ha : n < a.length) (hb : n < b.length) :
  (a[n] = b[n] → PBlock.common a b = (n + 1) + PBlock.common (a.drop (n + 1)) (b.drop (n + 1))) ∧ (a[n] ≠ b[n] → PBlock.common a b = n) := by
 rw [List.drop_eq_getElem_cons ha, List.drop_eq_getElem_cons hb, PBlock.common] at h
 constructor
 ·intro e; rw [if_pos e] at h; omega
 ·intro e; rw [if_neg e] at h; omega
theorem common_out (a b : List UInt8) (n : Nat) (h : PBlock.common a b = n + PBlock.common (a.drop n) (b.drop n)) (ha : a.length ≤ n ∨ b.length ≤ n) : PBlock.common a b = n := by
 rcases ha with ha | ha
 ·rw [List.drop_eq_nil_of_le ha, show ∀ l, PBlock.common [] l = 0 from fun l => by cases l <;> rfl] at h; omega
 ·rw [List.drop_eq_nil_of_le ha, show ∀ l, PBlock.common l [] = 0 from fun l => by cases l <;> rfl] at h; omega
set_option maxRecDepth 100000 in
set_option maxHeartbeats 8000000 in
theorem rRow_any (x0 x3 last : ByteArray) (x1 x2 : Int) (hf1 : 0 ≤ x1) (hf2 : x1 < 18446744073709551616) (hk : x0.size ≤ 520) (hv : x3.size ≤ 2048) (hl : last.size ≤ 520) (w : World) :
    Calls Try.prog 72 #[.agg #[.string x0, .int .u64 x1, .int .i64 x2, .string x3], .string last] w fun e w' => e = .returned (.string (B (PBlock.rowEnc ⟨L x0, x1.toNat, x2, L x3⟩ (L last)))) ∧ Below w.heap.size w w' := by
  have BX := Blk.new w 28 #[.string x0, .int .u64 x1, .int .i64 x2, .string x3]
  have HB := (Below.refl w.heap.size w).alloc (Nat.le_refl _) (.cells #[.string x0, .int .u64 x1, .int .i64 x2, .string x3] 28)
  go_enter Try.func72, Try.ntmps72
  go_wp2_with fail
  generalize w.alloc _ = W0 at BX HB ⊢
  generalize hg : w.heap.size = g at BX ⊢
  go_loopw [5] (fun v5 wr => ∃ n : Nat, n ≤ last.size ∧ n ≤ x0.size ∧ v5 = .int .i64 n ∧ Blk wr g 28 #[.string x0, .int .u64 x1, .int .i64 x2, .string x3] ∧ Below w.heap.size w wr ∧ PBlock.common (L last) (L x0) = n + PBlock.common ((L last).drop n) ((L x0).drop n)) (fun v5 _ => last.size - (intOf v5).toNat)
  case atStart => exact ⟨0, by omega, by omega, rfl, BX, HB, by simp⟩
  case round =>
    obtain ⟨n, h1, h2, rfl, BX, HB, hc⟩ := hrel
    have q0 := (BX.cell 0).trans rfl
    by_cases hgo : ∃ (ha : n < last.size) (hb : n < x0.size), last[n] = x0[n]
    · obtain ⟨ha, hb, he⟩ := hgo
      have t1 : ((n : Int) < (last.size : Int)) = True := eq_true (by omega)
      have d1 : decide ((n : Int) < (last.size : Int)) = true := decide_eq_true (by omega)
      have t2 : ((n : Int) < (x0.size : Int)) = True := eq_true (by omega)
      have d2 : decide ((n : Int) < (x0.size : Int)) = true := decide_eq_true (by omega)
      have z0 : (0 : Int) ≤ (n : Int) := by omega
      have b1 : ((last[n].toNat : Int) == (x0[n].toNat : Int)) = true := by rw [he]; exact beq_self_eq_true _
      have hc2 := Lib.hid ((common_at _ _ n hc (by rw [q0g]; exact ha) (by rw [q0g]; exact hb)).1 he)
      clear he hc
      go_wp2_with fail
      go_quiet (fail)
      have BX := BX.drewN nq
      have HB := q0z HB nq
      generalize wr.drewN nq = W2 at BX HB ⊢
      go_wp2_with fail
      go_roundw
      case rel => exact ⟨n + 1, by omega, by omega, by go_num, BX, HB, hc2.out⟩
      case measure => simp [intOf]; omega
    · have hcn : PBlock.common (L last) (L x0) = n := by
        by_cases ha : n < last.size
        · by_cases hb : n < x0.size
          · exact (common_at _ _ n hc (by rw [q0g]; exact ha) (by rw [q0g]; exact hb)).2 fun e => hgo ⟨ha, hb, e⟩
          · exact common_out _ _ n hc (.inr (by rw [q0g]; omega))
        · exact common_out _ _ n hc (.inl (by rw [q0g]; omega))
      have hx : ¬ n < last.size ∨ (n < last.size ∧ ¬ n < x0.size) ∨ ∃ (ha : n < last.size) (hb : n < x0.size), ((last[n].toNat : Int) == (x0[n].toNat : Int)) = false := by
        by_cases ha : n < last.size
        · by_cases hb : n < x0.size
          · exact .inr (.inr ⟨ha, hb, beq_false_of_ne fun e => hgo ⟨ha, hb, UInt8.toNat_inj.mp (by omega)⟩⟩)
          · exact .inr (.inl ⟨ha, hb⟩)
        · exact .inl ha
      clear hgo hc
      have P1 := fun w' => rPutUint_any (n : Int) (by omega) (by omega) w'
      have P2 := fun w' => rPutField_any (x0.extract n x0.size) (by rw [ByteArray.size_extract]; omega) w'
      have P3 := fun w' => rPutUint_any x1 hf1 hf2 w'
      have P4 := fun w' => rPutField_any x3 (by omega) w'
      have z1 : (B (PCode.putUint n)).size ≤ 10 := by rw [q0n]; exact PCode.putUint_length_ten (by omega)
      have z2 : (B (PCode.putField (L (x0.extract n x0.size)))).size ≤ 530 := by
        have e1 : (L (x0.extract n x0.size)).length ≤ 520 := by rw [q0g, ByteArray.size_extract]; omega
        have := PCode.putUint_length_ten (n := (L (x0.extract n x0.size)).length) (by omega)
        rw [q0n]; unfold PCode.putField; rw [List.length_append]; omega
      have z3 : (B (PCode.putUint x1.toNat)).size ≤ 10 := by rw [q0n]; exact PCode.putUint_length_ten (by omega)
      have z4 : (B (PCode.putField (L x3))).size ≤ 2060 := by
        have := PCode.putUint_length_ten (n := (L x3).length) (by rw [q0g]; omega)
        rw [q0n]; unfold PCode.putField; rw [List.length_append, q0g] at *; omega
      obtain ⟨kb, hkb⟩ : ∃ kb, IntKind.u8.wrap x2 = kb := ⟨_, rfl⟩
      have z5 : (strOfNums [kb]).size = 1 := rfl
      have HE : B (PBlock.rowEnc ⟨L x0, x1.toNat, x2, L x3⟩ (L last)) = (((B (PCode.putUint n) ++ B (PCode.putField (L (x0.extract n x0.size)))) ++ B (PCode.putUint x1.toNat)) ++ strOfNums [kb]) ++ (if x2 = 1 then B (PCode.putField (L x3)) else B []) := by
        apply L_inj
        simp only [q0t, L_B]
        unfold PBlock.rowEnc
        dsimp only
        rw [hcn, L_nums, L_drop, ← hkb, IntKind.wrap_u8]
        simp only [List.append_assoc]
        congr 3
        by_cases e : x2 = 1
        · rw [if_pos e, if_pos e]; rfl
        · rw [if_neg e, if_neg e]; rfl
      rw [Int.toNat_natCast] at P1
      have HE := Lib.hid HE
      clear hcn
      generalize B (PCode.putUint n) = p1 at P1 z1 HE
      generalize B (PCode.putField (L (x0.extract n x0.size))) = p2 at P2 z2 HE
      generalize B (PCode.putUint x1.toNat) = p3 at P3 z3 HE
      generalize B (PCode.putField (L x3)) = p4 at P4 z4 HE
      have P1 := Lib.hid P1
      have P2 := Lib.hid P2
      have P3 := Lib.hid P3
      have P4 := Lib.hid P4
      have u1 : IntKind.u64.wrap (n : Int) = (n : Int) := q0o (by omega) (by omega)
      have y1 : (n : Int) ≤ (x0.size : Int) := by omega
      have y0 : (0 : Int) ≤ (n : Int) := by omega
      have c1 : (9223372036854775807 < p1.size + p2.size) = False := eq_false (by omega)
      have c2 : (9223372036854775807 < p1.size + p2.size + p3.size) = False := eq_false (by omega)
      have c3 : (9223372036854775807 < p1.size + p2.size + p3.size + 1) = False := eq_false (by omega)
      have c4 : (9223372036854775807 < p1.size + p2.size + p3.size + 1 + p4.size) = False := eq_false (by omega)
      rcases hx with ha | ⟨ha, hb⟩ | ⟨ha, hb, b1⟩
      all_goals
        first
        | (have t1 : ((n : Int) < (last.size : Int)) = False := eq_false (by omega); have d1 : decide ((n : Int) < (last.size : Int)) = false := decide_eq_false (by omega))
        | (have t1 : ((n : Int) < (last.size : Int)) = True := eq_true (by omega); have d1 : decide ((n : Int) < (last.size : Int)) = true := decide_eq_true (by omega); first
           | (have t2 : ((n : Int) < (x0.size : Int)) = False := eq_false (by omega); have d2 : decide ((n : Int) < (x0.size : Int)) = false := decide_eq_false (by omega))
           | (have t2 : ((n : Int) < (x0.size : Int)) = True := eq_true (by omega); have d2 : decide ((n : Int) < (x0.size : Int)) = true := decide_eq_true (by omega)))
        go_wp2_with fail
        go_quiet (fail)
        have BX := BX.drewN nq
        have HB := q0z HB nq
        generalize wr.drewN nq = W2 at BX HB ⊢
        clear q0
        have q0 := (BX.cell 0).trans rfl
        have q1 := (BX.cell 1).trans rfl
        have q2 := (BX.cell 2).trans rfl
        go_wp2_with fail
        have HB0 := HB
        have BX0 := BX
        have BX := BX.drew
        have HB := HB.drew
        refine wp_region_held_drew (S := fun w' => w'.cell? ⟨g, 0, none⟩ = some (.string x0) ∧ w'.cell? ⟨g, 1, none⟩ = some (.int .u64 x1) ∧ w'.cell? ⟨g, 2, none⟩ = some (.int .i64 x2) ∧ w'.cell? ⟨g, 3, none⟩ = some (.string x3)) (by kernel_rfl) ⟨(BX.cell 0).trans rfl, (BX.cell 1).trans rfl, (BX.cell 2).trans rfl, (BX.cell 3).trans rfl⟩ (fun hHeld => ?_)
        refine wpAnyH_take (i := 0) (v := ?_) rfl (by kernel_rfl) (by kernel_rfl) (by kernel_rfl) (fun _ _ _ h => h) (Or.inl ⟨by rfl, ?_⟩) (by assumption) ?_
        rotate_left
        · (intro w hSw; (try simp only [List.getElem_toArray, List.getElem_cons_succ, List.getElem_cons_zero]); first | (go_simp; done) | (go_simp; with_reducible rfl))
        (try simp only [List.getElem_toArray, List.getElem_cons_succ, List.getElem_cons_zero, Act.put, qa25, qb25, qc25])
        refine wpAnyH_take (i := 1) (v := ?_) rfl (by kernel_rfl) (by kernel_rfl) (by kernel_rfl) (fun _ _ _ h => h) (Or.inl ⟨by rfl, ?_⟩) (by assumption) ?_
        rotate_left
        · (intro w hSw; (try simp only [List.getElem_toArray, List.getElem_cons_succ, List.getElem_cons_zero]); first | (go_simp; done) | (go_simp; with_reducible rfl))
        (try simp only [List.getElem_toArray, List.getElem_cons_succ, List.getElem_cons_zero, Act.put, qa25, qb25, qc25])
        refine wpAnyH_take (i := 3) (v := ?_) rfl (by kernel_rfl) (by kernel_rfl) (by kernel_rfl) (fun _ _ _ h => h) (Or.inl ⟨by rfl, ?_⟩) (by assumption) ?_
        rotate_left
        · (intro w hSw; (try simp only [List.getElem_toArray, List.getElem_cons_succ, List.getElem_cons_zero]); first | (go_simp; done) | (go_simp; with_reducible rfl))
        (try simp only [List.getElem_toArray, List.getElem_cons_succ, List.getElem_cons_zero, Act.put, qa25, qb25, qc25])
        refine wpAnyH_take (i := 4) (v := ?_) rfl (by kernel_rfl) (by kernel_rfl) (by kernel_rfl) (fun _ _ _ h => h) (Or.inl ⟨by rfl, ?_⟩) (by assumption) ?_
        rotate_left
        · (intro w hSw; (try simp only [List.getElem_toArray, List.getElem_cons_succ, List.getElem_cons_zero]); first | (go_simp; done) | (go_simp; with_reducible rfl))
        (try simp only [List.getElem_toArray, List.getElem_cons_succ, List.getElem_cons_zero, Act.put, qa25, qb25, qc25])
        refine wpAnyH_take (i := 5) (v := ?_) rfl (by kernel_rfl) (by kernel_rfl) (by kernel_rfl) (fun _ _ _ h => h) (Or.inl ⟨by rfl, ?_⟩) (by assumption) ?_
        rotate_left
        · (intro w hSw; (try simp only [List.getElem_toArray, List.getElem_cons_succ, List.getElem_cons_zero]); first | (go_simp; done) | (go_simp; with_reducible rfl))
        (try simp only [List.getElem_toArray, List.getElem_cons_succ, List.getElem_cons_zero, Act.put, qa25, qb25, qc25])
        refine wpAnyH_take (i := 6) (v := ?_) rfl (by kernel_rfl) (by kernel_rfl) (by kernel_rfl) (fun _ _ _ h => h) (Or.inl ⟨by rfl, ?_⟩) (by assumption) ?_
        rotate_left
        · (intro w hSw; (try simp only [List.getElem_toArray, List.getElem_cons_succ, List.getElem_cons_zero]); first | (go_simp; done) | (go_simp; with_reducible rfl))
        (try simp only [List.getElem_toArray, List.getElem_cons_succ, List.getElem_cons_zero, Act.put, qa25, qb25, qc25])
        refine wpAnyH_take (i := 9) (v := ?_) rfl (by kernel_rfl) (by kernel_rfl) (by kernel_rfl) (fun _ _ _ h => h) (Or.inl ⟨by rfl, ?_⟩) (by assumption) ?_
        rotate_left
        · (intro w hSw; (try simp only [List.getElem_toArray, List.getElem_cons_succ, List.getElem_cons_zero]); first | (go_simp; done) | (go_simp; with_reducible rfl))
        (try simp only [List.getElem_toArray, List.getElem_cons_succ, List.getElem_cons_zero, Act.put, qa25, qb25, qc25])
        refine wpAnyH_take (i := 10) (v := ?_) rfl (by kernel_rfl) (by kernel_rfl) (by kernel_rfl) (fun _ _ _ h => h) (Or.inl ⟨by rfl, ?_⟩) (by assumption) ?_
        rotate_left
        · (intro w hSw; (try simp only [List.getElem_toArray, List.getElem_cons_succ, List.getElem_cons_zero]); first | (go_simp; done) | (go_simp; with_reducible rfl))
        (try simp only [List.getElem_toArray, List.getElem_cons_succ, List.getElem_cons_zero, Act.put, qa25, qb25, qc25])
        refine wpAnyH_take (i := 13) (v := ?_) rfl (by kernel_rfl) (by kernel_rfl) (by kernel_rfl) (fun _ _ _ h => h) (Or.inl ⟨by rfl, ?_⟩) (by assumption) ?_
        rotate_left
        · (intro w hSw; (try simp only [List.getElem_toArray, List.getElem_cons_succ, List.getElem_cons_zero]); first | (go_simp; done) | (go_simp; with_reducible rfl))
        (try simp only [List.getElem_toArray, List.getElem_cons_succ, List.getElem_cons_zero, Act.put, qa25, qb25, qc25])
        refine wpAnyH_take (i := 14) (v := ?_) rfl (by kernel_rfl) (by kernel_rfl) (by kernel_rfl) (fun _ _ _ h => h) (Or.inl ⟨by rfl, ?_⟩) (by assumption) ?_
        rotate_left
        · (intro w hSw; (try simp only [List.getElem_toArray, List.getElem_cons_succ, List.getElem_cons_zero]); first | (go_simp; done) | (go_simp; with_reducible rfl))
        (try simp only [List.getElem_toArray, List.getElem_cons_succ, List.getElem_cons_zero, Act.put, qa25, qb25, qc25])
        refine wpAnyH_take (i := 15) (v := ?_) rfl (by kernel_rfl) (by kernel_rfl) (by kernel_rfl) (fun _ _ _ h => h) (Or.inl ⟨by rfl, ?_⟩) (by assumption) ?_
        rotate_left
        · (intro w hSw; (try simp only [List.getElem_toArray, List.getElem_cons_succ, List.getElem_cons_zero]); first | (go_simp; done) | (go_simp; with_reducible rfl))
        (try simp only [List.getElem_toArray, List.getElem_cons_succ, List.getElem_cons_zero, Act.put, qa25, qb25, qc25])
        refine wpAnyH_ready (rs := [2, 16]) (by kernel_rfl) (by simp) ?_
        refine AllReadyH.cons rfl (fun K hK => ?_) (AllReadyH.cons rfl (fun K hK => ?_) AllReadyH.nil)
        (try simp only [List.getElem_toArray, List.getElem_cons_succ, List.getElem_cons_zero])
        go_simp
        refine (P1.out _).mono ?_
        rintro e w3 ⟨rfl, hb⟩
        have HB := q0d HB hb
        have BX := BX.below hb BX.lt
        focus go_wp2_with fail
        refine hK.out _ _ ⟨(BX.cell 0).trans rfl, (BX.cell 1).trans rfl, (BX.cell 2).trans rfl, (BX.cell 3).trans rfl⟩ (fun hHeld => ?_)
        clear hK K hb
        (try simp only [List.getElem_toArray, List.getElem_cons_succ, List.getElem_cons_zero, Act.put, qa25, qb25, qc25])
        refine wpAnyH_ready (rs := [7, 16]) (by kernel_rfl) (by simp) ?_
        refine AllReadyH.cons rfl (fun K hK => ?_) (AllReadyH.cons rfl (fun K hK => ?_) AllReadyH.nil)
        (try simp only [List.getElem_toArray, List.getElem_cons_succ, List.getElem_cons_zero])
        go_simp
        refine (P2.out _).mono ?_
        rintro e w3 ⟨rfl, hb⟩
        have HB := q0d HB hb
        have BX := BX.below hb BX.lt
        focus go_wp2_with fail
        refine hK.out _ _ ⟨(BX.cell 0).trans rfl, (BX.cell 1).trans rfl, (BX.cell 2).trans rfl, (BX.cell 3).trans rfl⟩ (fun hHeld => ?_)
        clear hK K hb
        (try simp only [List.getElem_toArray, List.getElem_cons_succ, List.getElem_cons_zero, Act.put, qa25, qb25, qc25])
        refine wpAnyH_take (i := 8) (v := ?_) rfl (by kernel_rfl) (by kernel_rfl) (by kernel_rfl) (fun _ _ _ h => h) (Or.inl ⟨by rfl, ?_⟩) (by assumption) ?_
        rotate_left
        · (intro w hSw; (try simp only [List.getElem_toArray, List.getElem_cons_succ, List.getElem_cons_zero]); first | (go_simp; done) | (go_simp; with_reducible rfl))
        (try simp only [List.getElem_toArray, List.getElem_cons_succ, List.getElem_cons_zero, Act.put, qa25, qb25, qc25])
        refine wpAnyH_ready (rs := [11, 16]) (by kernel_rfl) (by simp) ?_
        refine AllReadyH.cons rfl (fun K hK => ?_) (AllReadyH.cons rfl (fun K hK => ?_) AllReadyH.nil)
        (try simp only [List.getElem_toArray, List.getElem_cons_succ, List.getElem_cons_zero])
        go_simp
        refine (P3.out _).mono ?_
        rintro e w3 ⟨rfl, hb⟩
        have HB := q0d HB hb
        have BX := BX.below hb BX.lt
        focus go_wp2_with fail
        refine hK.out _ _ ⟨(BX.cell 0).trans rfl, (BX.cell 1).trans rfl, (BX.cell 2).trans rfl, (BX.cell 3).trans rfl⟩ (fun hHeld => ?_)
        clear hK K hb
        (try simp only [List.getElem_toArray, List.getElem_cons_succ, List.getElem_cons_zero, Act.put, qa25, qb25, qc25])
        refine wpAnyH_take (i := 12) (v := ?_) rfl (by kernel_rfl) (by kernel_rfl) (by kernel_rfl) (fun _ _ _ h => h) (Or.inl ⟨by rfl, ?_⟩) (by assumption) ?_
        rotate_left
        · (intro w hSw; (try simp only [List.getElem_toArray, List.getElem_cons_succ, List.getElem_cons_zero]); first | (go_simp; done) | (go_simp; with_reducible rfl))
        (try simp only [List.getElem_toArray, List.getElem_cons_succ, List.getElem_cons_zero, Act.put, qa25, qb25, qc25])
        refine wpAnyH_ready (rs := [16]) (by kernel_rfl) (by simp) ?_
        refine AllReadyH.cons rfl (fun K hK => ?_) AllReadyH.nil
        (try simp only [List.getElem_toArray, List.getElem_cons_succ, List.getElem_cons_zero])
        go_simp
        have bs := Blk.new w3 5 #[.int .u8 kb]
        have BX := BX.alloc (.cells #[.int .u8 kb] 5)
        have HB := HB.alloc HB.size (.cells #[.int .u8 kb] 5)
        refine hK.out _ _ ⟨(BX.cell 0).trans rfl, (BX.cell 1).trans rfl, (BX.cell 2).trans rfl, (BX.cell 3).trans rfl⟩ (fun hHeld => ?_)
        clear hK K
        (try simp only [List.getElem_toArray, List.getElem_cons_succ, List.getElem_cons_zero, Act.put, qa25, qb25, qc25])
        refine wpAnyH_more (S' := fun w' => (w'.cell? ⟨g, 0, none⟩ = some (.string x0) ∧ w'.cell? ⟨g, 1, none⟩ = some (.int .u64 x1) ∧ w'.cell? ⟨g, 2, none⟩ = some (.int .i64 x2) ∧ w'.cell? ⟨g, 3, none⟩ = some (.string x3)) ∧ (convert 55 9 (.slice (some ⟨w3.heap.size, 0, none⟩) 1 1)).run Try.prog w' = .ok (.string (strOfNums [kb])) w') (fun _ h => h.1) _ _ _ _ ?_
        have hMore := And.intro hHeld (q1o [kb] (by simp) 1 rfl _ _ bs)
        refine wpAnyH_take (i := 17) (v := ?_) rfl (by kernel_rfl) (by kernel_rfl) (by kernel_rfl) (fun _ _ _ h => h) (Or.inl ⟨by rfl, ?_⟩) (by assumption) ?_
        rotate_left
        · (intro w hSw; (try simp only [List.getElem_toArray, List.getElem_cons_succ, List.getElem_cons_zero]); first | (go_simp; done) | (go_simp; with_reducible rfl))
        (try simp only [List.getElem_toArray, List.getElem_cons_succ, List.getElem_cons_zero, Act.put, qa25, qb25, qc25])
        clear hHeld
        refine wpAnyH_take (i := 18) (v := ?_) rfl (by kernel_rfl) (by kernel_rfl) (by kernel_rfl) (fun _ _ _ h => h) (Or.inl ⟨by rfl, ?_⟩) (by assumption) ?_
        rotate_left
        · (intro w hSw; (try simp only [List.getElem_toArray, List.getElem_cons_succ, List.getElem_cons_zero]); first | (go_simp; done) | (go_simp; with_reducible rfl))
        (try simp only [List.getElem_toArray, List.getElem_cons_succ, List.getElem_cons_zero, Act.put, qa25, qb25, qc25])
        refine wpAnyH_take (i := 19) (v := ?_) rfl (by kernel_rfl) (by kernel_rfl) (by kernel_rfl) (fun _ _ _ h => h) (Or.inl ⟨by rfl, ?_⟩) (by assumption) ?_
        rotate_left
        · (intro w hSw; (try simp only [List.getElem_toArray, List.getElem_cons_succ, List.getElem_cons_zero]); first | (go_simp; done) | (go_simp; with_reducible rfl))
        (try simp only [List.getElem_toArray, List.getElem_cons_succ, List.getElem_cons_zero, Act.put, qa25, qb25, qc25])
        refine wpAnyH_done (by kernel_rfl) ?_ _
        rotate_left
        (try simp only [List.getElem_toArray, List.getElem_cons_succ, List.getElem_cons_zero])
        go_simp
        have bs := Blk.new w3 5 #[.int .u8 kb]
        have BX := BX.alloc (.cells #[.int .u8 kb] 5)
        have HB := HB.alloc HB.size (.cells #[.int .u8 kb] 5)
        refine hK.out _ _ ⟨(BX.cell 0).trans rfl, (BX.cell 1).trans rfl, (BX.cell 2).trans rfl, (BX.cell 3).trans rfl⟩ (fun hHeld => ?_)
        clear hK K
        (try simp only [List.getElem_toArray, List.getElem_cons_succ, List.getElem_cons_zero, Act.put, qa25, qb25, qc25])
        refine wpAnyH_more (S' := fun w' => (w'.cell? ⟨g, 0, none⟩ = some (.string x0) ∧ w'.cell? ⟨g, 1, none⟩ = some (.int .u64 x1) ∧ w'.cell? ⟨g, 2, none⟩ = some (.int .i64 x2) ∧ w'.cell? ⟨g, 3, none⟩ = some (.string x3)) ∧ (convert 55 9 (.slice (some ⟨w3.heap.size, 0, none⟩) 1 1)).run Try.prog w' = .ok (.string (strOfNums [kb])) w') (fun _ h => h.1) _ _ _ _ ?_
        have hMore := And.intro hHeld (q1o [kb] (by simp) 1 rfl _ _ bs)
        refine wpAnyH_take (i := 17) (v := ?_) rfl (by kernel_rfl) (by kernel_rfl) (by kernel_rfl) (fun _ _ _ h => h) (Or.inl ⟨by rfl, ?_⟩) (by assumption) ?_
        rotate_left
        · (intro w hSw; (try simp only [List.getElem_toArray, List.getElem_cons_succ, List.getElem_cons_zero]); first | (go_simp; done) | (go_simp; with_reducible rfl))
        (try simp only [List.getElem_toArray, List.getElem_cons_succ, List.getElem_cons_zero, Act.put, qa25, qb25, qc25])
        clear hHeld
        refine wpAnyH_ready (rs := [11]) (by kernel_rfl) (by simp) ?_
        refine AllReadyH.cons rfl (fun K hK => ?_) AllReadyH.nil
        (try simp only [List.getElem_toArray, List.getElem_cons_succ, List.getElem_cons_zero])
        go_simp
        refine (P3.out _).mono ?_
        rintro e w3 ⟨rfl, hb⟩
        have HB := q0d HB hb
        have BX := BX.below hb BX.lt
        have bs := bs.below hb bs.lt
        focus go_wp2_with fail
        refine hK.out _ _ ⟨⟨(BX.cell 0).trans rfl, (BX.cell 1).trans rfl, (BX.cell 2).trans rfl, (BX.cell 3).trans rfl⟩, q1o [kb] (by simp) 1 rfl _ _ bs⟩ (fun hHeld => ?_)
        clear hK K hb
        (try simp only [List.getElem_toArray, List.getElem_cons_succ, List.getElem_cons_zero, Act.put, qa25, qb25, qc25])
        refine wpAnyH_take (i := 12) (v := ?_) rfl (by kernel_rfl) (by kernel_rfl) (by kernel_rfl) (fun _ _ _ h => h) (Or.inl ⟨by rfl, ?_⟩) (by assumption) ?_
        rotate_left
        · (intro w hSw; (try simp only [List.getElem_toArray, List.getElem_cons_succ, List.getElem_cons_zero]); first | (go_simp; done) | (go_simp; with_reducible rfl))
        (try simp only [List.getElem_toArray, List.getElem_cons_succ, List.getElem_cons_zero, Act.put, qa25, qb25, qc25])
        refine wpAnyH_take (i := 18) (v := ?_) rfl (by kernel_rfl) (by kernel_rfl) (by kernel_rfl) (fun _ _ _ h => h) (Or.inl ⟨by rfl, ?_⟩) (by assumption) ?_
        rotate_left
        · (intro w hSw; (try simp only [List.getElem_toArray, List.getElem_cons_succ, List.getElem_cons_zero]); first | (go_simp; done) | (go_simp; with_reducible rfl))
        (try simp only [List.getElem_toArray, List.getElem_cons_succ, List.getElem_cons_zero, Act.put, qa25, qb25, qc25])
        refine wpAnyH_take (i := 19) (v := ?_) rfl (by kernel_rfl) (by kernel_rfl) (by kernel_rfl) (fun _ _ _ h => h) (Or.inl ⟨by rfl, ?_⟩) (by assumption) ?_
        rotate_left
        · (intro w hSw; (try simp only [List.getElem_toArray, List.getElem_cons_succ, List.getElem_cons_zero]); first | (go_simp; done) | (go_simp; with_reducible rfl))
        (try simp only [List.getElem_toArray, List.getElem_cons_succ, List.getElem_cons_zero, Act.put, qa25, qb25, qc25])
        refine wpAnyH_done (by kernel_rfl) ?_ _
        rotate_left
        (try simp only [List.getElem_toArray, List.getElem_cons_succ, List.getElem_cons_zero])
        go_simp
        have bs := Blk.new w3 5 #[.int .u8 kb]
        have BX := BX.alloc (.cells #[.int .u8 kb] 5)
        have HB := HB.alloc HB.size (.cells #[.int .u8 kb] 5)
        refine hK.out _ _ ⟨(BX.cell 0).trans rfl, (BX.cell 1).trans rfl, (BX.cell 2).trans rfl, (BX.cell 3).trans rfl⟩ (fun hHeld => ?_)
        clear hK K
        (try simp only [List.getElem_toArray, List.getElem_cons_succ, List.getElem_cons_zero, Act.put, qa25, qb25, qc25])
        refine wpAnyH_more (S' := fun w' => (w'.cell? ⟨g, 0, none⟩ = some (.string x0) ∧ w'.cell? ⟨g, 1, none⟩ = some (.int .u64 x1) ∧ w'.cell? ⟨g, 2, none⟩ = some (.int .i64 x2) ∧ w'.cell? ⟨g, 3, none⟩ = some (.string x3)) ∧ (convert 55 9 (.slice (some ⟨w3.heap.size, 0, none⟩) 1 1)).run Try.prog w' = .ok (.string (strOfNums [kb])) w') (fun _ h => h.1) _ _ _ _ ?_
        have hMore := And.intro hHeld (q1o [kb] (by simp) 1 rfl _ _ bs)
        refine wpAnyH_take (i := 17) (v := ?_) rfl (by kernel_rfl) (by kernel_rfl) (by kernel_rfl) (fun _ _ _ h => h) (Or.inl ⟨by rfl, ?_⟩) (by assumption) ?_
        rotate_left
        · (intro w hSw; (try simp only [List.getElem_toArray, List.getElem_cons_succ, List.getElem_cons_zero]); first | (go_simp; done) | (go_simp; with_reducible rfl))
        (try simp only [List.getElem_toArray, List.getElem_cons_succ, List.getElem_cons_zero, Act.put, qa25, qb25, qc25])
        clear hHeld
        refine wpAnyH_ready (rs := [7]) (by kernel_rfl) (by simp) ?_
        refine AllReadyH.cons rfl (fun K hK => ?_) AllReadyH.nil
        (try simp only [List.getElem_toArray, List.getElem_cons_succ, List.getElem_cons_zero])
        go_simp
        refine (P2.out _).mono ?_
        rintro e w3 ⟨rfl, hb⟩
        have HB := q0d HB hb
        have BX := BX.below hb BX.lt
        have bs := bs.below hb bs.lt
        focus go_wp2_with fail
        refine hK.out _ _ ⟨⟨(BX.cell 0).trans rfl, (BX.cell 1).trans rfl, (BX.cell 2).trans rfl, (BX.cell 3).trans rfl⟩, q1o [kb] (by simp) 1 rfl _ _ bs⟩ (fun hHeld => ?_)
        clear hK K hb
        (try simp only [List.getElem_toArray, List.getElem_cons_succ, List.getElem_cons_zero, Act.put, qa25, qb25, qc25])
        refine wpAnyH_take (i := 8) (v := ?_) rfl (by kernel_rfl) (by kernel_rfl) (by kernel_rfl) (fun _ _ _ h => h) (Or.inl ⟨by rfl, ?_⟩) (by assumption) ?_
        rotate_left
        · (intro w hSw; (try simp only [List.getElem_toArray, List.getElem_cons_succ, List.getElem_cons_zero]); first | (go_simp; done) | (go_simp; with_reducible rfl))
        (try simp only [List.getElem_toArray, List.getElem_cons_succ, List.getElem_cons_zero, Act.put, qa25, qb25, qc25])
        refine wpAnyH_ready (rs := [11]) (by kernel_rfl) (by simp) ?_
        refine AllReadyH.cons rfl (fun K hK => ?_) AllReadyH.nil
        (try simp only [List.getElem_toArray, List.getElem_cons_succ, List.getElem_cons_zero])
        go_simp
        refine (P3.out _).mono ?_
        rintro e w3 ⟨rfl, hb⟩
        have HB := q0d HB hb
        have BX := BX.below hb BX.lt
        have bs := bs.below hb bs.lt
        focus go_wp2_with fail
        refine hK.out _ _ ⟨⟨(BX.cell 0).trans rfl, (BX.cell 1).trans rfl, (BX.cell 2).trans rfl, (BX.cell 3).trans rfl⟩, q1o [kb] (by simp) 1 rfl _ _ bs⟩ (fun hHeld => ?_)
        clear hK K hb
        (try simp only [List.getElem_toArray, List.getElem_cons_succ, List.getElem_cons_zero, Act.put, qa25, qb25, qc25])
        refine wpAnyH_take (i := 12) (v := ?_) rfl (by kernel_rfl) (by kernel_rfl) (by kernel_rfl) (fun _ _ _ h => h) (Or.inl ⟨by rfl, ?_⟩) (by assumption) ?_
        rotate_left
        · (intro w hSw; (try simp only [List.getElem_toArray, List.getElem_cons_succ, List.getElem_cons_zero]); first | (go_simp; done) | (go_simp; with_reducible rfl))
        (try simp only [List.getElem_toArray, List.getElem_cons_succ, List.getElem_cons_zero, Act.put, qa25, qb25, qc25])
        refine wpAnyH_take (i := 18) (v := ?_) rfl (by kernel_rfl) (by kernel_rfl) (by kernel_rfl) (fun _ _ _ h => h) (Or.inl ⟨by rfl, ?_⟩) (by assumption) ?_
        rotate_left
        · (intro w hSw; (try simp only [List.getElem_toArray, List.getElem_cons_succ, List.getElem_cons_zero]); first | (go_simp; done) | (go_simp; with_reducible rfl))
        (try simp only [List.getElem_toArray, List.getElem_cons_succ, List.getElem_cons_zero, Act.put, qa25, qb25, qc25])
        refine wpAnyH_take (i := 19) (v := ?_) rfl (by kernel_rfl) (by kernel_rfl) (by kernel_rfl) (fun _ _ _ h => h) (Or.inl ⟨by rfl, ?_⟩) (by assumption) ?_
        rotate_left
        · (intro w hSw; (try simp only [List.getElem_toArray, List.getElem_cons_succ, List.getElem_cons_zero]); first | (go_simp; done) | (go_simp; with_reducible rfl))
        (try simp only [List.getElem_toArray, List.getElem_cons_succ, List.getElem_cons_zero, Act.put, qa25, qb25, qc25])
        refine wpAnyH_done (by kernel_rfl) ?_ _
        rotate_left
        (try simp only [List.getElem_toArray, List.getElem_cons_succ, List.getElem_cons_zero])
        go_simp
        have bs := (Blk.new W2 5 #[.int .u8 kb]).drew
        have BX := (BX0.alloc (.cells #[.int .u8 kb] 5)).drew
        have HB := (HB0.alloc HB0.size (.cells #[.int .u8 kb] 5)).drew
        refine hK.out _ _ ⟨(BX.cell 0).trans rfl, (BX.cell 1).trans rfl, (BX.cell 2).trans rfl, (BX.cell 3).trans rfl⟩ (fun hHeld => ?_)
        clear hK K
        (try simp only [List.getElem_toArray, List.getElem_cons_succ, List.getElem_cons_zero, Act.put, qa25, qb25, qc25])
        refine wpAnyH_more (S' := fun w' => (w'.cell? ⟨g, 0, none⟩ = some (.string x0) ∧ w'.cell? ⟨g, 1, none⟩ = some (.int .u64 x1) ∧ w'.cell? ⟨g, 2, none⟩ = some (.int .i64 x2) ∧ w'.cell? ⟨g, 3, none⟩ = some (.string x3)) ∧ (convert 55 9 (.slice (some ⟨W2.heap.size, 0, none⟩) 1 1)).run Try.prog w' = .ok (.string (strOfNums [kb])) w') (fun _ h => h.1) _ _ _ _ ?_
        have hMore := And.intro hHeld (q1o [kb] (by simp) 1 rfl _ _ bs)
        refine wpAnyH_take (i := 17) (v := ?_) rfl (by kernel_rfl) (by kernel_rfl) (by kernel_rfl) (fun _ _ _ h => h) (Or.inl ⟨by rfl, ?_⟩) (by assumption) ?_
        rotate_left
        · (intro w hSw; (try simp only [List.getElem_toArray, List.getElem_cons_succ, List.getElem_cons_zero]); first | (go_simp; done) | (go_simp; with_reducible rfl))
        (try simp only [List.getElem_toArray, List.getElem_cons_succ, List.getElem_cons_zero, Act.put, qa25, qb25, qc25])
        clear hHeld
        refine wpAnyH_ready (rs := [2]) (by kernel_rfl) (by simp) ?_
        refine AllReadyH.cons rfl (fun K hK => ?_) AllReadyH.nil
        (try simp only [List.getElem_toArray, List.getElem_cons_succ, List.getElem_cons_zero])
        go_simp
        refine (P1.out _).mono ?_
        rintro e w3 ⟨rfl, hb⟩
        have HB := q0d HB hb
        have BX := BX.below hb BX.lt
        have bs := bs.below hb bs.lt
        focus go_wp2_with fail
        refine hK.out _ _ ⟨⟨(BX.cell 0).trans rfl, (BX.cell 1).trans rfl, (BX.cell 2).trans rfl, (BX.cell 3).trans rfl⟩, q1o [kb] (by simp) 1 rfl _ _ bs⟩ (fun hHeld => ?_)
        clear hK K hb
        (try simp only [List.getElem_toArray, List.getElem_cons_succ, List.getElem_cons_zero, Act.put, qa25, qb25, qc25])
        refine wpAnyH_ready (rs := [7]) (by kernel_rfl) (by simp) ?_
        refine AllReadyH.cons rfl (fun K hK => ?_) AllReadyH.nil
        (try simp only [List.getElem_toArray, List.getElem_cons_succ, List.getElem_cons_zero])
        go_simp
        refine (P2.out _).mono ?_
        rintro e w3 ⟨rfl, hb⟩
        have HB := q0d HB hb
        have BX := BX.below hb BX.lt
        have bs := bs.below hb bs.lt
        focus go_wp2_with fail
        refine hK.out _ _ ⟨⟨(BX.cell 0).trans rfl, (BX.cell 1).trans rfl, (BX.cell 2).trans rfl, (BX.cell 3).trans rfl⟩, q1o [kb] (by simp) 1 rfl _ _ bs⟩ (fun hHeld => ?_)
        clear hK K hb
        (try simp only [List.getElem_toArray, List.getElem_cons_succ, List.getElem_cons_zero, Act.put, qa25, qb25, qc25])
        refine wpAnyH_take (i := 8) (v := ?_) rfl (by kernel_rfl) (by kernel_rfl) (by kernel_rfl) (fun _ _ _ h => h) (Or.inl ⟨by rfl, ?_⟩) (by assumption) ?_
        rotate_left
        · (intro w hSw; (try simp only [List.getElem_toArray, List.getElem_cons_succ, List.getElem_cons_zero]); first | (go_simp; done) | (go_simp; with_reducible rfl))
        (try simp only [List.getElem_toArray, List.getElem_cons_succ, List.getElem_cons_zero, Act.put, qa25, qb25, qc25])
        refine wpAnyH_ready (rs := [11]) (by kernel_rfl) (by simp) ?_
        refine AllReadyH.cons rfl (fun K hK => ?_) AllReadyH.nil
        (try simp only [List.getElem_toArray, List.getElem_cons_succ, List.getElem_cons_zero])
        go_simp
        refine (P3.out _).mono ?_
        rintro e w3 ⟨rfl, hb⟩
        have HB := q0d HB hb
        have BX := BX.below hb BX.lt
        have bs := bs.below hb bs.lt
        focus go_wp2_with fail
        refine hK.out _ _ ⟨⟨(BX.cell 0).trans rfl, (BX.cell 1).trans rfl, (BX.cell 2).trans rfl, (BX.cell 3).trans rfl⟩, q1o [kb] (by simp) 1 rfl _ _ bs⟩ (fun hHeld => ?_)
        clear hK K hb
        (try simp only [List.getElem_toArray, List.getElem_cons_succ, List.getElem_cons_zero, Act.put, qa25, qb25, qc25])
        refine wpAnyH_take (i := 12) (v := ?_) rfl (by kernel_rfl) (by kernel_rfl) (by kernel_rfl) (fun _ _ _ h => h) (Or.inl ⟨by rfl, ?_⟩) (by assumption) ?_
        rotate_left
        · (intro w hSw; (try simp only [List.getElem_toArray, List.getElem_cons_succ, List.getElem_cons_zero]); first | (go_simp; done) | (go_simp; with_reducible rfl))
        (try simp only [List.getElem_toArray, List.getElem_cons_succ, List.getElem_cons_zero, Act.put, qa25, qb25, qc25])
        refine wpAnyH_take (i := 18) (v := ?_) rfl (by kernel_rfl) (by kernel_rfl) (by kernel_rfl) (fun _ _ _ h => h) (Or.inl ⟨by rfl, ?_⟩) (by assumption) ?_
        rotate_left
        · (intro w hSw; (try simp only [List.getElem_toArray, List.getElem_cons_succ, List.getElem_cons_zero]); first | (go_simp; done) | (go_simp; with_reducible rfl))
        (try simp only [List.getElem_toArray, List.getElem_cons_succ, List.getElem_cons_zero, Act.put, qa25, qb25, qc25])
        refine wpAnyH_take (i := 19) (v := ?_) rfl (by kernel_rfl) (by kernel_rfl) (by kernel_rfl) (fun _ _ _ h => h) (Or.inl ⟨by rfl, ?_⟩) (by assumption) ?_
        rotate_left
        · (intro w hSw; (try simp only [List.getElem_toArray, List.getElem_cons_succ, List.getElem_cons_zero]); first | (go_simp; done) | (go_simp; with_reducible rfl))
        (try simp only [List.getElem_toArray, List.getElem_cons_succ, List.getElem_cons_zero, Act.put, qa25, qb25, qc25])
        refine wpAnyH_done (by kernel_rfl) ?_ _
        all_goals
          clear q0 q1 q2 HB0 BX0 bs hMore c1 c2 c3
          have q2 := (BX.cell 2).trans rfl
          have q3 := (BX.cell 3).trans rfl
          by_cases h1 : x2 = 1
          · have b5 : (x2 == 1) = true := by rw [h1]; rfl
            rw [if_pos h1] at HE
            clear h1
            go_wp2_with fail
            refine (P4.out _).mono ?_
            rintro e w6 ⟨rfl, hb6⟩
            go_wp2_with fail
            go_ret
            exact ⟨by rw [HE.out]; rfl, by exact q0d HB hb6⟩
          · have b5 : (x2 == 1) = false := beq_false_of_ne h1
            have h0 : p1 ++ p2 ++ p3 ++ strOfNums [kb] ++ B [] = p1 ++ p2 ++ p3 ++ strOfNums [kb] := L_inj (by rw [q0t, L_B, List.append_nil])
            rw [if_neg h1, h0] at HE
            clear h1 h0
            go_wp2_with fail
            go_ret
            exact ⟨by rw [HE.out]; rfl, HB⟩
end Go.Proofs.Ytaigmemmgjlhgaa.Tab
-- TabRm
namespace Go.Proofs.Ytaigmemmgjlhgaa.Tab
open Go.RowKit Aid Txt Print PLink Block Bits Go.Proofs.YtaigmemmgjlhgaaW.PrintWords
open Bloom (place at_ by_ h2_ q1q probes width filter)
attribute [local go_sem] conv_one
theorem rBit_any (key : ByteArray) (h : key.size ≤ 9223372036854775806) (i m : Nat) (hi : i ≤ 1000000) (hm : 0 < m) (w : World) :
  Calls Try.prog 74 #[.string key, .int .i64 i, .int .u32 m] w fun e w' => e = .returned (.int .u32 (place key m i : Int)) ∧ Below w.heap.size w w' := by
 have h0 : Ev (fun k => freshetref10_Bit.f k key (i : Int) (m : Int)) (place key m i : Int) := by
  have r1 := ref_hash 1#32 key h
  have r2 := ref_hash 2#32 key h
  have b1 := (PCrc.hash 1#32 (L key)).isLt
  have e2 : I (PCrc.hash 2#32 (L key)) = (h2_ key : Int) := rfl
  have l2 := Bloom.h2_lt key
  have hp : ∀ b : Int, b = (by_ key : Int) → ((I (PCrc.hash 1#32 (L key)) + ((((i : Int) % 4294967296) * b) % 4294967296)) % 4294967296) % (m : Int) = (place key m i : Int) := by
   rintro _ rfl
   have e1 : I (PCrc.hash 1#32 (L key)) = ((PCrc.hash 1#32 (L key)).toNat : Int) := rfl
   have e3 : (i : Int) % 4294967296 = (i : Int) := by omega
   rw [e1, e3, ← Int.natCast_mul]
   unfold place at_
   have e4 : PCrc.hash 1 (L key) = PCrc.hash 1#32 (L key) := rfl
   rw [e4]
   generalize i * by_ key = P
   generalize (PCrc.hash 1#32 (L key)).toNat = a
   have e5 : ((a : Int) + (P : Int) % 4294967296) % 4294967296 = (((a + P) % 4294967296 : Nat) : Int) := by omega
   rw [e5]
   exact (Int.natCast_emod _ _).symm
  refine Ev.congr (f := fun k => (freshetref01_Hash.f k (I 2#32) key).bind fun t109 => (if (Int.tmod t109 2) = 0 then ((freshetref01_Hash.f k (I 1#32) key).bind fun t110 => (if (m : Int) = 0 then (none) else (some (((t110 + ((((i : Int) % 4294967296) * ((t109 + 1) % 4294967296)) % 4294967296)) % 4294967296) % (m : Int))))) else ((freshetref01_Hash.f k (I 1#32) key).bind fun t111 => (if (m : Int) = 0 then (none) else (some (((t111 + ((((i : Int) % 4294967296) * t109) % 4294967296)) % 4294967296) % (m : Int))))))) (fun k => rfl) ?_
  refine Ev.bind r2 ?_
  rw [e2]
  have hpar : Int.tmod (h2_ key : Int) 2 = (h2_ key : Int) % 2 := Int.tmod_eq_emod_of_nonneg (by omega)
  by_cases par : (h2_ key : Int) % 2 = 0
  ·refine Ev.congr (fun k => if_pos (by rw [hpar]; exact par)) ?_
   refine Ev.bind r1 ?_
   refine Ev.congr (fun k => if_neg (by omega)) ?_
   rw [hp _ (by unfold by_; omega)]
   exact Ev.now _
  ·refine Ev.congr (fun k => if_neg (by rw [hpar]; exact par)) ?_
   refine Ev.bind r1 ?_
   refine Ev.congr (fun k => if_neg (by omega)) ?_
   rw [hp _ (by unfold by_; omega)]
   exact Ev.now _
 obtain ⟨k, hk⟩ := h0.rounds
 refine (freshetref10_Bit.calls k key (i : Int) (m : Int) _ w hk).mono ?_
 rintro e w' ⟨rfl, hb⟩
 exact ⟨rfl, by first | exact hb | exact q0k.below hb⟩
set_option maxRecDepth 100000 in
set_option maxHeartbeats 8000000 in
theorem rMake_any (A0 : Option Addr) (c0 : Nat) (ks : List ByteArray) (w : World) (hr : Kd.C Kd.string w A0 ks.length ks) (hsz : ∀ s ∈ ks, s.size ≤ 520) (hlen : ks.length ≤ 1000) (q : Nat) (hq1 : 1 ≤ q) (hq2 : q ≤ 32) :
  Calls Try.prog 50 #[.slice A0 ks.length c0, .int .i64 q] w fun e w' => e = .returned (.tuple #[.string (B (filter q ks)), .int .i64 0]) ∧ Below w.heap.size w w' := by
 have ta : decide ((q : Int) < 1) = false := decide_eq_false (by omega)
 have tb : decide ((32 : Int) < (q : Int)) = false := decide_eq_false (by omega)
 have tc : decide ((65536 : Int) < (ks.length : Int)) = false := decide_eq_false (by omega)
 have hP : ks.length * q ≤ 32000 := Nat.le_trans (Nat.mul_le_mul hlen hq2) (by omega)
 have hP2 : (ks.length : Int) * (q : Int) = ((ks.length * q : Nat) : Int) := by push_cast; rfl
 obtain ⟨P, hPe⟩ : ∃ P : Nat, P = ks.length * q := ⟨_, rfl⟩
 rw [← hPe] at hP hP2
 have n1 : IntKind.i64.wrap ((P : Nat) : Int) = (P : Int) := IntWalk.i64_in _ (by omega)
 obtain ⟨kk, hkk⟩ : ∃ kk : Nat, kk = probes q := ⟨_, rfl⟩
 obtain ⟨mm, hmm⟩ : ∃ mm : Nat, mm = width ks.length q := ⟨_, rfl⟩
 have hkb : 1 ≤ kk ∧ kk ≤ 22 := by rw [hkk]; unfold probes; omega
 have hmb : 8 ≤ mm ∧ mm ≤ 4001 ∧ max P 64 ≤ 8 * mm ∧ 8 * mm < max P 64 + 8 := by rw [hmm]; unfold width; rw [← hPe]; omega
 have HR := Lib.hid hr
 have HS := Lib.hid hsz
 have hkp : kk = if q * 7 / 10 = 0 then 1 else q * 7 / 10 := by rw [hkk]; unfold probes; split <;> omega
 have HK := Lib.hid hkk
 have HM := Lib.hid hmm
 clear hr hsz hkk hmm hPe
 have hc1 : (kk = 1 ∧ ((q : Int) * 7 / 10 == 0) = true) ∨ ((kk : Int) = (q : Int) * 7 / 10 ∧ ((q : Int) * 7 / 10 == 0) = false) := by
  by_cases h : q * 7 / 10 = 0
  ·rw [if_pos h] at hkp; exact .inl ⟨hkp, beq_iff_eq.2 (by omega)⟩
  ·rw [if_neg h] at hkp; exact .inr ⟨by omega, beq_false_of_ne (by omega)⟩
 have hc2 : (max P 64 = 64 ∧ decide ((P : Int) < 64) = true) ∨ (max P 64 = P ∧ decide ((P : Int) < 64) = false) := by
  by_cases h : P < 64
  ·exact .inl ⟨by omega, decide_eq_true (by omega)⟩
  ·exact .inr ⟨by omega, decide_eq_false (by omega)⟩
 clear hkp
 obtain ⟨M0, hM0⟩ : ∃ M0, max P 64 = M0 := ⟨_, rfl⟩
 rw [hM0] at hmb hc2
 clear hM0
 rcases hc1 with ⟨hk1, b1⟩ | ⟨hk1, b1⟩ <;> rcases hc2 with ⟨hm1, b2⟩ | ⟨hm1, b2⟩
 all_goals
  have HK1 := Lib.hid hk1
  have HM1 := Lib.hid hm1
  clear hk1 hm1
  go_enter Try.func50, Try.ntmps50
  go_wp2_with fail
  go_loopw [7] (fun v7 wr => ∃ m : Nat, M0 ≤ m ∧ m ≤ 8 * mm ∧ v7 = .int .i64 m ∧ Below w.heap.size w wr) (fun v7 _ => 8 * mm - (intOf v7).toNat)
  case atStart => exact ⟨M0, by omega, by omega, congrArg (Value.int .i64) (by have := HM1.out; omega), Below.refl _ _⟩
  case round =>
   obtain ⟨m, hm1, hm2, rfl, hB⟩ := hrel
   have e1 : Int.tmod (m : Int) 8 = ((m % 8 : Nat) : Int) := by rw [Int.tmod_eq_emod_of_nonneg (by omega)]; rfl
   have e2 : IntKind.i64.wrap ((m % 8 : Nat) : Int) = ((m % 8 : Nat) : Int) := IntWalk.i64_in _ (by omega)
   by_cases hlt : m < 8 * mm
   ·have t1 : (((m % 8 : Nat) : Int) == 0) = false := beq_false_of_ne (by omega)
    have t2 : (((m % 8 : Nat) : Int) != 0) = true := bne_iff_ne.2 (by omega)
    have t3 : (((m : Int) % 8) == 0) = false := beq_false_of_ne (by omega)
    have t4 : (((m : Int) % 8) != 0) = true := bne_iff_ne.2 (by omega)
    go_wp2_with fail
    go_roundw
    case rel => exact ⟨m + 1, by omega, by omega, by go_num, hB⟩
    case measure => simp [intOf]; omega
   ·have hm : m = 8 * mm := by omega
    have t1 : (((m % 8 : Nat) : Int) == 0) = true := beq_iff_eq.2 (by omega)
    have t2 : (((m % 8 : Nat) : Int) != 0) = false := by rw [bne, t1]; rfl
    have t3 : (((m : Int) % 8) == 0) = true := beq_iff_eq.2 (by omega)
    have t4 : (((m : Int) % 8) != 0) = false := by rw [bne, t3]; rfl
    have hmk := fun W => Bloom.make_u8 mm (by omega) W
    have e3 : Int.tdiv (m : Int) 8 = (mm : Int) := by rw [Int.tdiv_eq_ediv_of_nonneg (by omega)]; omega
    have e4 : IntKind.i64.wrap (mm : Int) = (mm : Int) := IntWalk.i64_in _ (by omega)
    have e5 : IntKind.u32.wrap (m : Int) = (m : Int) := by rw [IntKind.wrap_u32]; omega
    have hB0 := Bloom.bts_made wr mm
    have hb0 := hB.alloc hB.size (.cells (madeCells #[.int .u8 0] mm) 5)
    have hg := hB.size
    have hzl : (PBloom.zeros mm).length = mm := by simp [PBloom.zeros]
    have HMM := Lib.hid hm
    clear hm hm1 hm2 hlt
    go_wp2_with fail
    generalize wr.alloc (.cells (madeCells #[.int .u8 0] mm) 5) = W0 at hB0 hb0 ⊢
    generalize wr.heap.size = g at hB0 hg ⊢
    clear hmk hB e3 e4 t1 t2 t3 t4 e1 e2 HM1
    go_loopw [9] (fun v9 wx => ∃ i : Nat, i ≤ ks.length ∧ v9 = .int .i64 i ∧ Bts wx g (PBloom.setAll (PBloom.zeros mm) (q1q m kk (ks.take i))) ∧ Below w.heap.size w wx) (fun v9 _ => ks.length - (intOf v9).toNat)
    case atStart => exact ⟨0, by omega, rfl, hB0, hb0⟩
    case round =>
     clear hB0 hb0
     obtain ⟨i, hi, rfl, hBx, hbx⟩ := hrel
     by_cases hlt : i < ks.length
     ·have t1 : ((i : Int) < (ks.length : Int)) = True := eq_true (by omega)
      have hsn := Bloom.bits_snoc m kk ks i hlt
      have HSN := Lib.hid hsn
      have PB := Lib.hid (fun (j : Nat) (hj : j ≤ 1000000) w' => rBit_any ks[i] (by have := HS.out ks[i] (List.getElem_mem _); omega) j m hj (by have := HMM.out; omega) w')
      have hge : ks.getD i ByteArray.empty = ks[i] := by rw [List.getD_eq_getElem?_getD, List.getElem?_eq_getElem hlt]; rfl
      rw [hge] at HSN
      have hcl := fun (wy : World) (hb : Below w.heap.size w wy) => Bloom.strs_get (Kd.C_below HR.out hb) i hlt
      rw [hge] at hcl
      have HCL := Lib.hid hcl
      clear hsn hge hcl
      generalize ks[i] = key at PB HSN HCL
      have z1 : (0 : Int) ≤ (i : Int) := by omega
      go_wp2_with fail
      go_loopw [10] (fun v10 wy => ∃ j : Nat, j ≤ kk ∧ v10 = .int .i64 j ∧ Bts wy g (PBloom.setAll (PBloom.zeros mm) (q1q m kk (ks.take i) ++ (List.range j).map (place key m))) ∧ Below w.heap.size w wy) (fun v10 _ => kk - (intOf v10).toNat)
      case atStart => exact ⟨0, by omega, rfl, by simpa using hBx, hbx⟩
      case round =>
       clear hBx hbx
       obtain ⟨j, hj, rfl, hBy, hby⟩ := hrel
       by_cases hjl : j < kk
       ·(try have tj1 : ((j : Int) < 1) = True := eq_true (by have := HK1.out; omega))
        (try have tj2 : ((j : Int) < (q : Int) * 7 / 10) = True := eq_true (by have := HK1.out; omega))
        obtain ⟨ad, rfl, hcell⟩ := HCL.out _ hby
        go_wp2_with fail
        have hlen2 := (PBloom.setAll_length (PBloom.zeros mm) (q1q m kk (ks.take i) ++ (List.range j).map (place key m))).trans hzl
        refine (PB.out j (by omega) _).mono ?_
        rintro e w3 ⟨rfl, hb3⟩
        have hB3 := Bloom.bts_below hBy (by rw [hlen2]; omega) hb3
        have hb4 := q0d hby hb3
        have hpl : place key m j < m := Nat.mod_lt _ (by have := HMM.out; omega)
        have hrs := Bloom.range_snoc (place key m) j
        have hst : PBloom.setAll (PBloom.zeros mm) (q1q m kk (ks.take i) ++ (List.range (j + 1)).map (place key m)) = PBloom.setBit (PBloom.setAll (PBloom.zeros mm) (q1q m kk (ks.take i) ++ (List.range j).map (place key m))) (place key m j) := by
         rw [hrs, ← List.append_assoc, Bloom.setAll_snoc]
        have HST := Lib.hid hst
        clear hst hrs hcell hBy hby hb3
        generalize PBloom.setAll (PBloom.zeros mm) (q1q m kk (ks.take i) ++ (List.range j).map (place key m)) = lb at hB3 hlen2 HST
        generalize place key m j = bt at hpl HST
        have hbit : bt / 8 < lb.length := by have := HMM.out; omega
        have hbt : bt / 8 < mm := by have := HMM.out; omega
        have gc := hB3.cell (bt / 8) hbit
        have gf := hB3.free (bt / 8) hbit
        have mk := Bloom.marked (lb.getD (bt / 8) 0) (bt % 8) (by omega)
        have hput := hB3.put (bt / 8) hbit (lb.getD (bt / 8) 0 ||| UInt8.ofNat (2 ^ (bt % 8)))
        have hbp := hb4.setCell (p := ⟨g, bt / 8, none⟩) hg (.int .u8 (bits .or .u8 ((lb.getD (bt / 8) 0).toNat : Int) (2 ^ (bt % 8) % 256)))
        rw [← mk] at hput
        have HST2 := Lib.hid (HST.out.trans (show PBloom.setBit lb bt = lb.set (bt / 8) (lb.getD (bt / 8) 0 ||| UInt8.ofNat (2 ^ (bt % 8))) from rfl))
        have hbt2 : bt ≤ 4294967295 := by have := HMM.out; omega
        generalize lb.getD (bt / 8) 0 = cc at gc mk hput hbp HST2
        clear HST mk
        go_wp2_with fail
        go_roundw
        case rel => exact ⟨j + 1, by omega, by go_num, by rw [HST2.out]; exact hput, hbp⟩
        case measure => simp [intOf]; omega
       ·(try have tj1 : ((j : Int) < 1) = False := eq_false (by have := HK1.out; omega))
        (try have tj2 : ((j : Int) < (q : Int) * 7 / 10) = False := eq_false (by have := HK1.out; omega))
        obtain rfl : j = kk := by omega
        go_wp2_with fail
        go_roundw
        case rel => exact ⟨i + 1, by omega, by go_num, by rw [HSN.out]; exact hBy, hby⟩
        case measure => simp [intOf]; omega
     ·have t1 : ((i : Int) < (ks.length : Int)) = False := eq_false (by omega)
      obtain rfl : i = ks.length := by omega
      rw [List.take_length] at hBx
      have hlen2 := (PBloom.setAll_length (PBloom.zeros mm) (q1q m kk ks)).trans hzl
      have HF : Hid (filter q ks = UInt8.ofNat kk :: PBloom.setAll (PBloom.zeros mm) (q1q m kk ks)) := Lib.hid (by unfold filter; rw [← HM.out, ← HK.out, ← HMM.out])
      generalize PBloom.setAll (PBloom.zeros mm) (q1q m kk ks) = lb at hBx hlen2 HF
      have kt := fun o => (Bloom.bts_below hBx (by rw [hlen2]; omega) ((Below.refl wr.heap.size wr).alloc (Nat.le_refl _) o)).text hlen2 mm
      have hzB : (B lb).size = mm := by rw [q0n, hlen2]
      have z5 : (strOfNums [(kk : Int)]).size = 1 := rfl
      have z6 : (strOfNums [(1 : Int)]).size = 1 := rfl
      have z7 : (strOfNums [(q : Int) * 7 / 10]).size = 1 := rfl
      have c9 : (9223372036854775807 < 1 + mm) = False := eq_false (by omega)
      go_wp2_with fail
      go_ret2
      refine ⟨?_, hbx.alloc hbx.size _⟩
      have hk9 := HK1.out
      have e9 : ∀ X : Int, X = (kk : Int) → strOfNums [X] ++ B lb = B (UInt8.ofNat kk :: lb) := by
       rintro _ rfl
       exact L_inj (by rw [q0t, L_nums, L_B, L_B]; rfl)
      rw [HF.out]
      first
      | (rw [← e9 1 (by omega)]; rfl)
      | (rw [← e9 ((q : Int) * 7 / 10) (by omega)]; rfl)
end Go.Proofs.Ytaigmemmgjlhgaa.Tab
