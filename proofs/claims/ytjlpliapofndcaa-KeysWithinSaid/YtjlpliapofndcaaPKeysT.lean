/- Keys: their first parts, and the ranges of them. No program in sight. -/
import Derived.Test.YtjlpliapofndcaaPKeys
namespace Go.Proofs.Ytjlpliapofndcaa.PKeysT
open PCode PKeys
theorem puts {t u x y : List UInt8} (h : putText t ++ x = putText u ++ y) : t = u ∧ x = y := by
  have h1 := congrArg text h
  rw [text_put, text_put] at h1
  have h2 : t = u := (Prod.mk.inj h1).1
  subst h2
  exact ⟨rfl, List.append_cancel_left h⟩
theorem put_end (t : List UInt8) : ∃ y, putText t = y ++ [1] := ⟨encT t ++ [0], by rw [putText_enc, List.append_assoc]; rfl⟩
theorem parts_of {k : K} {p : Int} (h : rangeErr k p = 0) : 1 ≤ p ∧ p ≤ 4 ∧ 0 ≤ k.state ∧ k.state ≤ 63 ∧ (1 < p → 0 ≤ k.group ∧ k.group ≤ 63) := by
  unfold rangeErr at h
  split at h
  · cases h
  · omega
theorem first1 (k : K) : first k 1 = [by1 k.state] := rfl
theorem first2 (k : K) : first k 2 = [by1 k.state, by1 k.group] := rfl
theorem first3 (k : K) : first k 3 = by1 k.state :: by1 k.group :: putText k.key := by
  show by1 k.state :: ([by1 k.group] ++ (putText k.key ++ [])) = _
  rw [List.append_nil]; rfl
theorem first4 (k : K) : first k 4 = by1 k.state :: by1 k.group :: (putText k.key ++ putText k.space) := rfl
/-- more parts go on where fewer end -/
theorem first_more (k : K) {m n : Nat} (h1 : 1 ≤ m) (h2 : m < n) (h3 : n ≤ 4) : ∃ y d, first k n = first k m ++ (y ++ [d]) := by
  obtain ⟨yk, hk⟩ := put_end k.key
  obtain ⟨ys, hs⟩ := put_end k.space
  have hm : m = 1 ∨ m = 2 ∨ m = 3 := by omega
  have hn : n = 2 ∨ n = 3 ∨ n = 4 := by omega
  rcases hm with rfl | rfl | rfl <;> rcases hn with rfl | rfl | rfl <;> first
    | (exfalso; omega)
    | exact ⟨[], by1 k.group, rfl⟩
    | exact ⟨by1 k.group :: yk, 1, by rw [first3, first1, hk]; rfl⟩
    | exact ⟨by1 k.group :: (putText k.key ++ ys), 1, by rw [first4, first1, hs]; simp⟩
    | exact ⟨yk, 1, by rw [first3, first2, hk]; rfl⟩
    | exact ⟨putText k.key ++ ys, 1, by rw [first4, first2, hs]; simp⟩
    | exact ⟨ys, 1, by rw [first4, first3, hs]; simp⟩
/-- of as many parts none goes on behind another one -/
theorem first_free {j k : K} {n : Nat} (h1 : 1 ≤ n) (h3 : n ≤ 4) {x : List UInt8} (h : first k n = first j n ++ x) : first k n = first j n := by
  have hn : n = 1 ∨ n = 2 ∨ n = 3 ∨ n = 4 := by omega
  rcases hn with rfl | rfl | rfl | rfl
  · rw [first1, first1] at h ⊢
    have := congrArg List.length h
    simp at this
    rw [this, List.append_nil] at h
    exact h
  · rw [first2, first2] at h ⊢
    have := congrArg List.length h
    simp at this
    rw [this, List.append_nil] at h
    exact h
  · rw [first3, first3] at h ⊢
    simp only [List.cons_append, List.cons.injEq] at h
    have h4 := puts (x := []) (y := x) (by rw [List.append_nil]; exact h.2.2)
    rw [h.1, h.2.1, h4.1]
  · rw [first4, first4] at h ⊢
    simp only [List.cons_append, List.cons.injEq, List.append_assoc] at h
    have h4 := puts h.2.2
    have h5 := puts (x := []) (y := x) (by rw [List.append_nil]; exact h4.2)
    rw [h.1, h.2.1, h4.1, h5.1]
/-- a key's text begins with its first parts -/
theorem enc_first (k : K) {n : Nat} (h1 : 1 ≤ n) (h3 : n ≤ 4) : ∃ x, enc k = first k n ++ x := by
  have hn : n = 1 ∨ n = 2 ∨ n = 3 ∨ n = 4 := by omega
  rcases hn with rfl | rfl | rfl | rfl
  · exact ⟨by1 k.group :: (putText k.key ++ (putText k.space ++ k.sub)), rfl⟩
  · exact ⟨putText k.key ++ (putText k.space ++ k.sub), rfl⟩
  · exact ⟨putText k.space ++ k.sub, by rw [first3]; rfl⟩
  · exact ⟨k.sub, by rw [first4]; unfold enc; simp⟩
theorem begins_iff (a b : K) {n : Nat} (h1 : 1 ≤ n) (h3 : n ≤ 4) : (∃ x, enc a = first b n ++ x) ↔ first a n = first b n := by
  obtain ⟨y, hy⟩ := enc_first a h1 h3
  constructor
  · rintro ⟨x, hx⟩
    have h : first a n ++ y = first b n ++ x := hy.symm.trans hx
    rcases List.append_eq_append_iff.1 h with ⟨z, hz, _⟩ | ⟨z, hz, _⟩
    · exact (first_free h1 h3 hz).symm
    · exact first_free h1 h3 hz
  · intro h
    exact ⟨y, by rw [← h]; exact hy⟩
/-- have two the same first parts? -/
def sameParts (a b : K) (p : Int) : Bool := a.state == b.state && ((decide (p < 2) || a.group == b.group) && ((decide (p < 3) || a.key == b.key) && (decide (p < 4) || a.space == b.space)))
theorem same_iff {a b : K} {p : Int} (ha : rangeErr a p = 0) (hb : rangeErr b p = 0) : sameParts a b p = decide (first a p.toNat = first b p.toNat) := by
  obtain ⟨p1, p2, a1, a2, a3⟩ := parts_of ha
  obtain ⟨_, _, b1, b2, b3⟩ := parts_of hb
  have hs : by1 a.state = by1 b.state ↔ a.state = b.state := ⟨fun h => by1_inj a1 (by omega) b1 (by omega) h, fun h => by rw [h]⟩
  have hg : 1 < p → (by1 a.group = by1 b.group ↔ a.group = b.group) := fun hp => ⟨fun h => by1_inj (a3 hp).1 (by have := (a3 hp).2; omega) (b3 hp).1 (by have := (b3 hp).2; omega) h, fun h => by rw [h]⟩
  have hk : ∀ {x y : List UInt8}, putText a.key ++ x = putText b.key ++ y ↔ a.key = b.key ∧ x = y := ⟨puts, fun h => by rw [h.1, h.2]⟩
  have hk0 : putText a.key = putText b.key ↔ a.key = b.key := ⟨fun h => (puts (x := []) (y := []) (by rw [h])).1, fun h => by rw [h]⟩
  have hp0 : putText a.space = putText b.space ↔ a.space = b.space := ⟨fun h => (puts (x := []) (y := []) (by rw [h])).1, fun h => by rw [h]⟩
  have hn : p = 1 ∨ p = 2 ∨ p = 3 ∨ p = 4 := by omega
  have e : ∀ q : Bool, ∀ P : Prop, [Decidable P] → (q = true ↔ P) → q = decide P := fun q P _ h => by
    by_cases hP : P
    · rw [decide_eq_true hP]; exact h.2 hP
    · rw [decide_eq_false hP]; cases q with
      | true => exact absurd (h.1 rfl) hP
      | false => rfl
  unfold sameParts
  refine e _ _ ?_
  rcases hn with rfl | rfl | rfl | rfl
  · show _ ↔ first a 1 = first b 1
    rw [first1, first1]
    simp [hs]
  · show _ ↔ first a 2 = first b 2
    rw [first2, first2]
    simp [hs, hg (by decide)]
  · show _ ↔ first a 3 = first b 3
    rw [first3, first3]
    simp [hs, hg (by decide), hk0]
  · show _ ↔ first a 4 = first b 4
    rw [first4, first4]
    simp [hs, hg (by decide), hk, hp0]
theorem by1_ne {n : Int} (h0 : 0 ≤ n) (h1 : n ≤ 63) : by1 n ≠ 255 := by
  intro e
  have := by1_nat h0 (by omega)
  rw [e] at this
  have h2 : (255 : UInt8).toNat = 255 := rfl
  omega
theorem first_last {k : K} {p : Int} (h : rangeErr k p = 0) : ∃ q c, first k p.toNat = q ++ [c] ∧ c ≠ 255 := by
  obtain ⟨p1, p2, a1, a2, a3⟩ := parts_of h
  obtain ⟨yk, hk⟩ := put_end k.key
  obtain ⟨ys, hs⟩ := put_end k.space
  have hn : p = 1 ∨ p = 2 ∨ p = 3 ∨ p = 4 := by omega
  rcases hn with rfl | rfl | rfl | rfl
  · exact ⟨[], by1 k.state, rfl, by1_ne a1 a2⟩
  · exact ⟨[by1 k.state], by1 k.group, rfl, by1_ne (a3 (by decide)).1 (a3 (by decide)).2⟩
  · refine ⟨by1 k.state :: by1 k.group :: yk, 1, ?_, by decide⟩
    show first k 3 = _
    rw [first3, hk]; rfl
  · refine ⟨by1 k.state :: by1 k.group :: (putText k.key ++ ys), 1, ?_, by decide⟩
    show first k 4 = _
    rw [first4, hs]; simp
theorem range_of_check {k : K} {p : Int} (h : check k = 0) (h1 : 1 ≤ p) (h2 : p ≤ 4) : rangeErr k p = 0 := by
  obtain ⟨a1, a2, a3, a4, a5, a6, a7⟩ := check_ok h
  unfold rangeErr
  rw [if_neg (by omega), if_neg (by omega)]
theorem range_ok {k : K} {p : Int} (h : rangeErr k p = 0) : range k p = (first k p.toNat, next (first k p.toNat), 0) := if_neg (by simpa using h)
theorem range_err {k : K} {p : Int} (h : rangeErr k p ≠ 0) : range k p = ([], [], rangeErr k p) := if_pos h
theorem lt_self_next (p : List UInt8) {c : UInt8} (hc : c ≠ 255) : lt (p ++ [c]) (p ++ [c + 1]) = true := ((next_iff p c hc (p ++ [c])).2 ⟨[], (List.append_nil _).symm⟩).2
end Go.Proofs.Ytjlpliapofndcaa.PKeysT
