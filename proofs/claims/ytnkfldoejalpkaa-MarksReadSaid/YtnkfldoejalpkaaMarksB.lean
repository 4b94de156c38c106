/- Marks: what is written is read back, and what is read is what was written. -/
import Derived.Test.YtnkfldoejalpkaaMarksRd
namespace Go.Proofs.Ytnkfldoejalpkaa.Marks
open Go.RowKit Aid PMarks Txt
theorem bit_of (d : Bool) : ((if d then (1 : UInt8) else 0)).toNat = if d then 1 else 0 := by cases d <;> rfl
theorem one_len (x : Src) : (one x).length = 9 := by unfold one; rw [List.length_append, PCode.putOrd_length]; rfl
theorem one_at (x : Src) (t : List UInt8) : (one x ++ t).getD 8 0 = if x.2 then 1 else 0 := by
  unfold one
  rw [List.getD_eq_getElem?_getD, List.append_assoc, List.getElem?_append_right (by rw [PCode.putOrd_length]; omega), PCode.putOrd_length]
  rfl
theorem src1_one (x : Src) (t : List UInt8) (h : Word x.1) : src1 (one x ++ t) = x := by
  obtain ⟨m, d⟩ := x
  have h8 := one_at (m, d) t
  unfold src1
  rw [h8]
  have : PCode.ord (one (m, d) ++ t) = m := by
    unfold one
    rw [List.append_assoc]
    exact PCode.ord_put m h.1 h.2 _
  rw [this]
  cases d <;> rfl
theorem ones_drop (l : List Src) : ∀ k, k ≤ l.length → (ones l).drop (9 * k) = ones (l.drop k) := by
  induction l with
  | nil => intro k hk; simp [ones]
  | cons x l ih =>
    intro k hk
    cases k with
    | zero => rfl
    | succ k =>
      have e : ones (x :: l) = one x ++ ones l := rfl
      rw [e, List.drop_succ_cons, ← ih k (by simpa using hk), List.drop_append, one_len, List.drop_of_length_le (by rw [one_len]; omega), List.nil_append]
      congr 1
theorem read_text (s : St) (hg : Good s) (hr : Rng s) (hl : s.l.length ≤ 16) : read (text s) = some s := by
  have b0 := hg.lo
  have b1 := hg.hi
  have n1 := hg.one
  have e0 : text s = PCode.putUint s.l.length ++ (PCode.putUint s.bound.toNat ++ (PCode.putOrd s.now ++ ones s.l)) := by
    unfold text head
    simp only [List.append_assoc]
  have u1 : PCode.uint (text s) = (s.l.length, (PCode.putUint s.l.length).length, 0) := by rw [e0]; exact PCode.uint_put (by omega) _
  have d1 : (text s).drop (PCode.putUint s.l.length).length = PCode.putUint s.bound.toNat ++ (PCode.putOrd s.now ++ ones s.l) := by rw [e0, List.drop_left]
  have u2 : PCode.uint (PCode.putUint s.bound.toNat ++ (PCode.putOrd s.now ++ ones s.l)) = (s.bound.toNat, (PCode.putUint s.bound.toNat).length, 0) := PCode.uint_put (by omega) _
  have d2 : (text s).drop ((PCode.putUint s.l.length).length + (PCode.putUint s.bound.toNat).length) = PCode.putOrd s.now ++ ones s.l := by rw [← List.drop_drop, d1, List.drop_left]
  have hw : Word s.now := ⟨by have := hr.lo; omega, by have := hr.hi; omega⟩
  have ho : PCode.ord (PCode.putOrd s.now ++ ones s.l) = s.now := PCode.ord_put _ hw.1 hw.2 _
  have hk : ∀ k, (h : k < s.l.length) → (PCode.putOrd s.now ++ ones s.l).drop (8 + 9 * k) = one s.l[k] ++ ones (s.l.drop (k + 1)) := by
    intro k h
    rw [← List.drop_drop]
    have : (PCode.putOrd s.now ++ ones s.l).drop 8 = ones s.l := by rw [List.drop_append, PCode.putOrd_length, List.drop_of_length_le (by rw [PCode.putOrd_length]; omega)]; rfl
    rw [this, ones_drop _ _ (by omega), List.drop_eq_getElem_cons h]
    rfl
  have hs : srcsAt (PCode.putOrd s.now ++ ones s.l) s.l.length = s.l := by
    unfold srcsAt
    apply List.ext_getElem
    · rw [List.length_map, List.length_range]
    · intro k h1 h2
      rw [List.getElem_map, List.getElem_range, hk k h2]
      have := hr.all _ (List.getElem_mem h2)
      exact src1_one _ _ ⟨by omega, by omega⟩
  have hall : (List.range s.l.length).all (fun k => ok1 ((PCode.putOrd s.now ++ ones s.l).drop (8 + 9 * k))) = true := by
    rw [List.all_eq_true]
    intro k hk2
    have h2 := List.mem_range.1 hk2
    have := hr.all _ (List.getElem_mem h2)
    rw [hk k h2]
    have h8 := one_at s.l[k] (ones (s.l.drop (k + 1)))
    have hord : PCode.ord (one s.l[k] ++ ones (s.l.drop (k + 1))) = s.l[k].1 := by
      unfold one
      rw [List.append_assoc]
      exact PCode.ord_put _ (by omega) (by omega) _
    refine ok1_at _ ?_ (by rw [hord]; exact this.1) (by rw [hord]; exact this.2)
    rw [h8, bit_of]
    split <;> omega
  unfold read
  rw [u1]
  show readW (text s) (s.l.length, (PCode.putUint s.l.length).length, 0) (PCode.uint ((text s).drop (PCode.putUint s.l.length).length)) = _
  rw [d1, u2]
  unfold readW
  rw [if_pos ⟨rfl, rfl, hl, by show s.bound.toNat ≤ _; omega, by show ((text s).drop ((PCode.putUint s.l.length).length + (PCode.putUint s.bound.toNat).length)).length = _; rw [d2, List.length_append, PCode.putOrd_length, ones_le], n1⟩]
  show readAt ((text s).drop ((PCode.putUint s.l.length).length + (PCode.putUint s.bound.toNat).length)) s.l.length (s.bound.toNat : Int) = _
  rw [d2]
  unfold readAt
  rw [ho, hs, if_pos ⟨hall, hr.lo, hr.hi, hg.ok⟩]
  have : (s.bound.toNat : Int) = s.bound := by omega
  rw [this]
theorem ones_read (r : List UInt8) (n : Nat) (hr : r.length = 8 + 9 * n) (hall : (List.range n).all (fun k => ok1 (r.drop (8 + 9 * k))) = true) : ∀ m, m ≤ n → ones ((List.range m).map fun k => src1 (r.drop (8 + 9 * k))) = (r.drop 8).take (9 * m) := by
  intro m
  induction m with
  | zero => intro _; simp [ones]
  | succ m ih =>
    intro hm
    have hk := List.all_eq_true.1 hall m (List.mem_range.2 (by omega))
    have hk2 := of_decide_eq_true hk
    have e9 : one (src1 (r.drop (8 + 9 * m))) = (r.drop (8 + 9 * m)).take 9 := by
      have hlen : (r.drop (8 + 9 * m)).length = 9 * (n - m) := by rw [List.length_drop]; omega
      have h9 : 9 ≤ (r.drop (8 + 9 * m)).length := by omega
      generalize r.drop (8 + 9 * m) = x at hk2 h9
      have e8 : x.take 9 = x.take 8 ++ [x.getD 8 0] := by
        rw [List.take_succ_eq_append_getElem (by omega), List.getD_eq_getElem?_getD, List.getElem?_eq_getElem (by omega)]
        rfl
      rw [e8]
      unfold one src1
      dsimp only
      rw [PCode.put_ord x (by omega)]
      congr 2
      apply UInt8.toNat_inj.1
      rw [bit_of]
      have := hk2.1
      by_cases c : (x.getD 8 0).toNat = 1
      · rw [decide_eq_true c, if_pos rfl, c]
      · rw [decide_eq_false c, if_neg (by simp)]; omega
    unfold ones at ih ⊢
    rw [List.range_succ, List.map_append, List.flatMap_append, ih (by omega)]
    simp only [List.map_cons, List.map_nil, List.flatMap_cons, List.flatMap_nil, List.append_nil]
    rw [e9, show 9 * (m + 1) = 9 * m + 9 by omega, List.take_add, List.drop_drop]
theorem read_some (l : List UInt8) (s : St) (h : read l = some s) : text s = l ∧ Good s ∧ Rng s ∧ s.l.length ≤ 16 := by
  unfold read at h
  obtain ⟨u, hu⟩ : ∃ u, PCode.uint l = u := ⟨_, rfl⟩
  rw [hu] at h
  obtain ⟨v, hv⟩ : ∃ v, PCode.uint (l.drop u.2.1) = v := ⟨_, rfl⟩
  rw [hv] at h
  unfold readW at h
  split at h
  · rename_i hc
    obtain ⟨c1, c2, c3, c4, c5, c6⟩ := hc
    obtain ⟨n, i, e⟩ := u
    obtain ⟨bd, k, f⟩ := v
    simp only at c1 c2 c3 c4 c5 c6 h hv
    subst c1 c2
    have o1 := PCode.uint_ok hu
    have o2 := PCode.uint_ok hv
    have ef : l = PCode.putUint n ++ (PCode.putUint bd ++ l.drop (i + k)) := by
      rw [o1.1, o2.1]
      rw [← List.drop_drop, List.take_append_drop, List.take_append_drop]
    generalize hr : l.drop (i + k) = r at h c5 ef
    unfold readAt at h
    split at h
    · rename_i hd
      obtain ⟨d1, d2, d3, d4⟩ := hd
      obtain rfl := Option.some.inj h
      have ho := ones_read r n c5 d1 n (Nat.le_refl _)
      have hl8 : (r.drop 8).take (9 * n) = r.drop 8 := List.take_of_length_le (by rw [List.length_drop]; omega)
      rw [hl8] at ho
      refine ⟨?_, ⟨d4, by show (0 : Int) ≤ (bd : Int); omega, by show (bd : Int) ≤ 1099511627776; omega, by show 1 ≤ (srcsAt r n).length; rw [srcsAt_len]; exact c6⟩, ⟨fun x hx => ?_, d2, d3⟩, by show (srcsAt r n).length ≤ 16; rw [srcsAt_len]; exact c3⟩
      · unfold text head
        show PCode.putUint (srcsAt r n).length ++ PCode.putUint ((bd : Int)).toNat ++ PCode.putOrd (PCode.ord r) ++ ones (srcsAt r n) = l
        rw [srcsAt_len, Int.toNat_natCast, PCode.put_ord r (by omega)]
        have : ones (srcsAt r n) = r.drop 8 := ho
        rw [this, List.append_assoc, List.take_append_drop, List.append_assoc, ← ef]
      · obtain ⟨q, hq, rfl⟩ := List.mem_map.1 hx
        have hk := of_decide_eq_true (List.all_eq_true.1 d1 q hq)
        exact ⟨hk.2.1, hk.2.2⟩
    · cases h
  · cases h
end Go.Proofs.Ytnkfldoejalpkaa.Marks
