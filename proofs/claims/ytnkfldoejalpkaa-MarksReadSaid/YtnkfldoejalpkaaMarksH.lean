/- The reference's marks: made, and as a text. -/
import Derived.Test.YtnkfldoejalpkaaMarksF
import Derived.Test.YtnkfldoejalpkaaMarksB
namespace Go.Proofs.Ytnkfldoejalpkaa.Marks
open Go.RowKit Aid PMarks Txt Print Go.Proofs.YtnkfldoejalpkaaW.PrintWords Go.Proofs.YtnkfldoejalpkaaW.PrintMore
theorem ref_text_l (bd nw : Int) (l : List Src) (hl : l.length ≤ 16) (hw : ∀ x ∈ l, Word x.1) (h : List UInt8) (hh : h.length ≤ 100) (d : Nat) : ∀ i : Nat, i + d = l.length →
    Ev (fun k => freshetref23_Text.l0 k (B (h ++ ones (l.take i))) (i : Int) bd nw (l.map (·.1)) (l.map (·.2))) (B (h ++ ones l)) := by
  induction d with
  | zero =>
    intro i hi
    rw [List.take_of_length_le (by omega)]
    refine Ev.step (f := fun _ => some _) (fun k => ?_) (Ev.now _)
    rw [freshetref23_Text.l0, if_neg (by rw [List.length_map]; omega)]
  | succ d ih =>
    intro i hi
    have hlt : i < l.length := by omega
    have hn := ih (i + 1) (by omega)
    have hg : l.getD i (0, false) = l[i] := by rw [List.getD_eq_getElem?_getD, List.getElem?_eq_getElem hlt]; rfl
    have e1 : rd (l.map (·.1)) (i : Int) = l[i].1 := by have := rd_fst l i; rw [hg] at this; exact this
    have e2 : rdOf false (l.map (·.2)) (i : Int) = l[i].2 := by have := rd_snd l i; rw [hg] at this; exact this
    have e3 : wrap64 ((i : Int) + 1) = ((i + 1 : Nat) : Int) := wrap_id (x := ((i + 1 : Nat) : Int)) (by omega) (by omega)
    have hon : ones (l.take (i + 1)) = ones (l.take i) ++ (PCode.putOrd l[i].1 ++ [if l[i].2 then 1 else 0]) := by
      unfold ones
      rw [List.take_succ_eq_append_getElem hlt, List.flatMap_append]
      simp [one]
    have hol := ones_le (l.take i)
    have hol2 : (l.take i).length ≤ i := List.length_take_le _ _
    have hp := ref_putOrd l[i].1 (hw _ (List.getElem_mem hlt))
    have hx : B (h ++ ones (l.take (i + 1))) = B (h ++ ones (l.take i)) ++ B (PCode.putOrd l[i].1) ++ B [if l[i].2 then 1 else 0] := by
      rw [hon, B_append, B_append]
      simp only [List.append_assoc]
    have z1 : (B (h ++ ones (l.take i))).size ≤ 300 := by rw [size_B, List.length_append]; omega
    have z3 : (B (PCode.putOrd l[i].1)).size = 8 := by rw [size_B, PCode.putOrd_length]
    rw [hx] at hn
    generalize B (h ++ ones (l.take i)) = x1 at z1 hn ⊢
    generalize B (PCode.putOrd l[i].1) = x3 at z3 hp hn
    have z4 : (x1 ++ x3).size = x1.size + x3.size := ByteArray.size_append
    refine Ev.step (f := fun k => (freshetref02_PutOrd.f k l[i].1).bind fun t162 => (if x1.size + t162.size ≤ 9223372036854775807 then (if (i : Int) < ((l.map (·.2)).length : Int) then (if l[i].2 = true then (if (x1 ++ t162).size + 1 ≤ 9223372036854775807 then (freshetref23_Text.l0 k ((x1 ++ t162) ++ (⟨#[1]⟩ : ByteArray)) (wrap64 ((i : Int) + 1)) bd nw (l.map (·.1)) (l.map (·.2))) else (none)) else (if (x1 ++ t162).size + 1 ≤ 9223372036854775807 then (freshetref23_Text.l0 k ((x1 ++ t162) ++ (⟨#[0]⟩ : ByteArray)) (wrap64 ((i : Int) + 1)) bd nw (l.map (·.1)) (l.map (·.2))) else (none))) else (none)) else (none))) (fun k => ?_) (Ev.bind hp ?_)
    · rw [freshetref23_Text.l0, if_pos (by rw [List.length_map]; omega), if_pos (by omega), e1, e2]
    · simp only [if_pos (show x1.size + x3.size ≤ 9223372036854775807 by omega), if_pos (show (i : Int) < ((l.map (·.2)).length : Int) by rw [List.length_map]; omega), e3]
      cases hd : l[i].2 with
      | true =>
        rw [hd] at hn
        simp only [if_true, if_pos (show (x1 ++ x3).size + 1 ≤ 9223372036854775807 by omega)]
        exact hn
      | false =>
        rw [hd] at hn
        simp only [Bool.false_eq_true, if_false, if_pos (show (x1 ++ x3).size + 1 ≤ 9223372036854775807 by omega)]
        exact hn
theorem ref_text (s : St) (hg : Good s) (hr : Rng s) (hl : s.l.length ≤ 16) : Ev (fun k => freshetref23_Text.f k s.bound s.now (s.l.map (·.1)) (s.l.map (·.2))) (B (text s)) := by
  have b0 := hg.lo
  have b1 := hg.hi
  have p1 := ref_put s.l.length (by omega)
  have p2 := ref_put s.bound.toNat (by omega)
  have p3 := ref_putOrd s.now ⟨by have := hr.lo; omega, by have := hr.hi; omega⟩
  have u1 : IntKind.u64.wrap (((s.l.map (·.1)).length : Nat) : Int) = (s.l.length : Int) := by rw [List.length_map]; exact wrap_u64_id (by omega) (by omega)
  have u2 : IntKind.u64.wrap s.bound = (s.bound.toNat : Int) := by rw [wrap_u64_id (by omega) (by omega)]; omega
  have hh : B (PCode.putUint s.l.length) ++ B (PCode.putUint s.bound.toNat) ++ B (PCode.putOrd s.now) = B (head s) := by
    unfold head
    rw [B_append, B_append]
  have z1 : (B (PCode.putUint s.l.length)).size ≤ 10 := by rw [size_B]; exact PCode.putUint_length_ten (by omega)
  have z2 : (B (PCode.putUint s.bound.toNat)).size ≤ 10 := by rw [size_B]; exact PCode.putUint_length_ten (by omega)
  have z3 : (B (PCode.putOrd s.now)).size = 8 := by rw [size_B, PCode.putOrd_length]
  have hf := ref_text_l s.bound s.now s.l hl (fun x hx => ⟨by have := hr.all x hx; omega, by have := hr.all x hx; omega⟩) (head s) (by have := head_le s (by omega) b0 b1; omega) s.l.length 0 (by omega)
  unfold freshetref23_Text.f
  rw [u1, u2]
  refine Ev.bind p1 (Ev.bind p2 ?_)
  simp only [if_pos (show (B (PCode.putUint s.l.length)).size + (B (PCode.putUint s.bound.toNat)).size ≤ 9223372036854775807 by omega)]
  refine Ev.bind p3 ?_
  simp only [if_pos (show (B (PCode.putUint s.l.length) ++ B (PCode.putUint s.bound.toNat)).size + (B (PCode.putOrd s.now)).size ≤ 9223372036854775807 by rw [ByteArray.size_append]; omega), hh]
  have e0 : B (head s ++ ones (s.l.take 0)) = B (head s) := by simp [ones]
  rw [e0] at hf
  exact hf
theorem rtext_any (s : St) (hg : Good s) (hr : Rng s) (hl : s.l.length ≤ 16) (A1 A2 : Option Addr) (c1 c2 : Nat) (w : World) (h1 : Kd.C (Kd.int .i64) w A1 s.l.length (s.l.map (·.1))) (h2 : Kd.C Kd.bool w A2 s.l.length (s.l.map (·.2))) (l1 : s.l.length ≤ c1) (l2 : s.l.length ≤ c2) :
    Calls Try.prog 23 #[.agg #[.int .i64 s.bound, .int .i64 s.now, .slice A1 s.l.length c1, .slice A2 s.l.length c2]] w fun e w' => e = .returned (.string (B (text s))) ∧ Below w.heap.size w w' := by
  obtain ⟨k, hk⟩ := (ref_text s hg hr hl).rounds
  have e1 : (s.l.map (·.1)).length = s.l.length := List.length_map _
  have e2 : (s.l.map (·.2)).length = s.l.length := List.length_map _
  have := freshetref23_Text.calls k s.bound s.now A1 c1 (s.l.map (·.1)) A2 c2 (s.l.map (·.2)) _ w (by rw [e1]; exact h1) (by rw [e1]; exact l1) (by rw [e2]; exact h2) (by rw [e2]; exact l2) hk
  rw [e1, e2] at this
  exact this
theorem ref_new_l (n : Nat) (bd : Int) (hn : n ≤ 16) (d : Nat) : ∀ i : Nat, i + d = n →
    Ev (fun k => freshetref23_New.l0 k (n : Int) (i : Int) bd (-1125899906842624) (List.replicate i (-1125899906842624)) (List.replicate i false)) (bd, -1125899906842624, List.replicate n (-1125899906842624), List.replicate n false, 0) := by
  induction d with
  | zero =>
    intro i hi
    obtain rfl : i = n := by omega
    refine Ev.step (f := fun _ => some _) (fun k => ?_) (Ev.now _)
    rw [freshetref23_New.l0, if_neg (by omega)]
  | succ d ih =>
    intro i hi
    have hr := ih (i + 1) (by omega)
    rw [List.replicate_succ', List.replicate_succ'] at hr
    refine Ev.step (fun k => ?_) hr
    rw [freshetref23_New.l0, if_pos (by omega), if_pos (by rw [List.length_replicate]; omega), if_pos (by rw [List.length_replicate]; omega), wrap_id (by omega) (by omega)]
    rfl
theorem ref_new (n : Nat) (bd : Int) (h1 : 1 ≤ n) (h2 : n ≤ 16) (h3 : 0 ≤ bd) (h4 : bd ≤ 1099511627776) : Ev (fun k => freshetref23_New.f k (n : Int) bd) (bd, -1125899906842624, List.replicate n (-1125899906842624), List.replicate n false, 0) := by
  unfold freshetref23_New.f
  simp only [if_neg (show ¬ (n : Int) < 1 by omega), if_neg (show ¬ (n : Int) > 16 by omega), if_neg (show ¬ bd < 0 by omega), decide_eq_false (show ¬ bd > 1099511627776 by omega)]
  refine Ev.step (f := fun k => freshetref23_New.l0 k (n : Int) ((0 : Nat) : Int) bd (-1125899906842624) (List.replicate 0 (-1125899906842624)) (List.replicate 0 false)) (fun k => ?_) (ref_new_l n bd h2 n 0 (by omega))
  rw [freshetref23_New.j0, if_neg (by simp)]
  rfl
theorem ref_new_bad (n bd : Int) (h : fit n bd = false) : Ev (fun k => freshetref23_New.f k n bd) (0, 0, [], [], 2) := by
  have h0 := of_decide_eq_false h
  have out : Ev (fun k => freshetref23_New.j0 k n bd true) (0, 0, ([] : List Int), ([] : List Bool), 2) := by
    refine Ev.step (f := fun _ => some _) (fun k => ?_) (Ev.now _)
    rw [freshetref23_New.j0, if_pos rfl]
  unfold freshetref23_New.f
  by_cases c1 : n < 1
  · simp only [if_pos c1]; exact out
  · simp only [if_neg c1]
    by_cases c2 : n > 16
    · simp only [if_pos c2]; exact out
    · simp only [if_neg c2]
      by_cases c3 : bd < 0
      · simp only [if_pos c3]; exact out
      · simp only [if_neg c3, decide_eq_true (show bd > 1099511627776 by omega)]; exact out
/-- what the reference's New hands back -/
def Made (n : Nat) (bd : Int) (w : World) (e : Ending) (w' : World) : Prop := ∃ v1 v2 : Value, e = .returned (.tuple #[.agg #[.int .i64 bd, .int .i64 (-1125899906842624), v1, v2], .int .i64 0]) ∧
  Kd.R (Kd.int .i64) 2 w' w.heap.size (fun _ => True) v1 ((mk0 n bd).l.map (·.1)) ∧ Kd.R Kd.bool 4 w' w.heap.size (fun _ => True) v2 ((mk0 n bd).l.map (·.2)) ∧ Below w.heap.size w w'
theorem rnew_any (n : Nat) (bd : Int) (h1 : 1 ≤ n) (h2 : n ≤ 16) (h3 : 0 ≤ bd) (h4 : bd ≤ 1099511627776) (w : World) :
    Calls Try.prog 21 #[.int .i64 n, .int .i64 bd] w (Made n bd w) := by
  obtain ⟨k, hk⟩ := (ref_new n bd h1 h2 h3 h4).rounds
  refine (freshetref23_New.calls k (n : Int) bd _ _ _ _ _ w hk).mono ?_
  rintro e w' ⟨v1, v2, rfl, r1, r2, hb⟩
  refine ⟨v1, v2, rfl, ?_, ?_, hb⟩
  · unfold mk0
    rw [List.map_replicate]
    exact r1
  · unfold mk0
    rw [List.map_replicate]
    exact r2
theorem rnew_bad (n bd : Int) (h : fit n bd = false) (w : World) :
    Calls Try.prog 21 #[.int .i64 n, .int .i64 bd] w fun e w' => ∃ (A1 : Option Addr) (n1 c1 : Nat) (A2 : Option Addr) (n2 c2 : Nat), e = .returned (.tuple #[.agg #[.int .i64 0, .int .i64 0, .slice A1 n1 c1, .slice A2 n2 c2], .int .i64 2]) ∧ Below w.heap.size w w' := by
  obtain ⟨k, hk⟩ := (ref_new_bad n bd h).rounds
  refine (freshetref23_New.calls k n bd _ _ _ _ _ w hk).mono ?_
  rintro e w' ⟨v1, v2, rfl, r1, r2, hb⟩
  obtain ⟨A1, c1, rfl⟩ := Kd.R_slice r1
  obtain ⟨A2, c2, rfl⟩ := Kd.R_slice r2
  exact ⟨A1, _, c1, A2, _, c2, rfl, hb⟩
/-- the reference's marks in a block of their own -/
theorem RH.new {n : Nat} {bd : Int} {w w1 w2 : World} {b g : Nat} {v1 v2 : Value} (r1 : Kd.R (Kd.int .i64) 2 w1 w.heap.size (fun _ => True) v1 ((mk0 n bd).l.map (·.1))) (r2 : Kd.R Kd.bool 4 w1 w.heap.size (fun _ => True) v2 ((mk0 n bd).l.map (·.2)))
    (hb : b < w.heap.size) (hbe : Below w.heap.size w w1) (h2 : w2 = w1.alloc (.cells #[.int .i64 bd, .int .i64 (-1125899906842624), v1, v2] 52)) (hg : g = w1.heap.size) : RH w2 g b (mk0 n bd) v1 v2 := by
  subst h2 hg
  have K := Blk.new w1 52 #[.int .i64 bd, .int .i64 (-1125899906842624), v1, v2]
  have ha := (Below.refl w1.heap.size w1).alloc (Nat.le_refl _) (.cells #[.int .i64 bd, .int .i64 (-1125899906842624), v1, v2] 52)
  have q1 := Kd.R_mono (Kd.R_bound r1) (ok' := fun k => k ≠ b ∧ k ≠ w1.heap.size) (fun k hk => ⟨by have := hk.2.1; omega, by have := hk.2.2.1; omega⟩)
  have q2 := Kd.R_mono (Kd.R_bound r2) (ok' := fun k => k ≠ b ∧ k ≠ w1.heap.size) (fun k hk => ⟨by have := hk.2.1; omega, by have := hk.2.2.1; omega⟩)
  exact ⟨(K.cell 0).trans rfl, (K.cell 1).trans rfl, (K.cell 2).trans rfl, (K.cell 3).trans rfl, fun j _ => K.frozen j, Kd.R_lower (Kd.R_below q1 ha) (Nat.zero_le _), Kd.R_lower (Kd.R_below q2 ha) (Nat.zero_le _), by have := hbe.size; omega⟩
/-- beside another block -/
theorem RH.rebase {w w1 : World} {g b b' : Nat} {s : St} {v1 v2 : Value} (h : RH w g b s v1 v2) (hb : Below w.heap.size w w1) (hb' : w.heap.size ≤ b') : RH w1 g b' s v1 v2 := by
  have hlt := h.lt
  have h1 := h.below hb
  have q1 := Kd.R_mono (Kd.R_bound h.r1) (ok' := fun k => k ≠ b' ∧ k ≠ g) (fun k hk => ⟨by have := hk.2.2.1; omega, hk.1.2⟩)
  have q2 := Kd.R_mono (Kd.R_bound h.r2) (ok' := fun k => k ≠ b' ∧ k ≠ g) (fun k hk => ⟨by have := hk.2.2.1; omega, hk.1.2⟩)
  exact ⟨h1.bound, h1.now, h1.c2, h1.c3, h1.free, Kd.R_below q1 hb, Kd.R_below q2 hb, by omega⟩
end Go.Proofs.Ytnkfldoejalpkaa.Marks
