/- Frames one behind the other, with bytes behind them, and cut anywhere. No program in sight. -/
import Derived.Test.YtfibccfbcehheaaFSeq
namespace Go.Proofs.Ytfibccfbcehheaa.FSeq
open PFrame
theorem put_pos {p : List UInt8} (h : p.length ≤ 65536) : 5 ≤ (put p).1.length := by
  have h1 := get_put p [] h
  have h2 := get_size_pos (s := (put p).1 ++ []) (by rw [h1])
  rw [h1] at h2
  exact h2.1
theorem all_put {p : List UInt8} (h : p.length ≤ 65536) (r : List UInt8) : all ((put p).1 ++ r) = (p :: (all r).1, (put p).1.length + (all r).2.1, (all r).2.2) := by
  have h1 := get_put p r h
  have h2 := put_pos h
  have h3 : (put p).1 ++ r ≠ [] := by
    intro e
    have := congrArg List.length e
    rw [List.length_append, List.length_nil] at this
    omega
  rw [all_go h3 (by rw [h1]), h1]
  dsimp only
  rw [List.drop_left]
theorem all_behind (t : List UInt8) (k : Nat) : ∀ s : List UInt8, s.length ≤ k → all (s.take (all s).2.1 ++ t) = ((all s).1 ++ (all t).1, (all s).2.1 + (all t).2.1, (all t).2.2) := by
  induction k with
  | zero =>
    intro s h
    obtain rfl : s = [] := by simpa using h
    rw [all_nil]
    simp
  | succ k ih =>
    intro s h
    by_cases h0 : s = []
    · subst h0
      rw [all_nil]
      simp
    by_cases he : (get s).2.2 = 0
    · have hz := get_size_pos he
      obtain ⟨q1, q2, q3, q4, q5, q6⟩ := get_ok (s := s) (p := (get s).1) (n := (get s).2.1) (by rw [← he])
      have hi := ih (s.drop (get s).2.1) (by rw [List.length_drop]; omega)
      rw [all_go h0 he]
      dsimp only
      rw [List.take_add, ← q2, List.append_assoc, all_put q5, hi, q6]
      simp [Nat.add_assoc]
    · rw [all_stop h0 he]
      simp
/-- the frames of texts, one behind the other -/
def frames : List (List UInt8) → List UInt8
  | [] => []
  | p :: l => (put p).1 ++ frames l
theorem frames_append (a b : List (List UInt8)) : frames (a ++ b) = frames a ++ frames b := by
  induction a with
  | nil => rfl
  | cons p a ih => show (put p).1 ++ frames (a ++ b) = ((put p).1 ++ frames a) ++ frames b; rw [ih, List.append_assoc]
/-- how many are whole, and where the last of them ends -/
def whole : List (List UInt8) → Nat → Nat × Nat
  | [], _ => (0, 0)
  | p :: l, k => if (put p).1.length ≤ k then (1 + (whole l (k - (put p).1.length)).1, (put p).1.length + (whole l (k - (put p).1.length)).2) else (0, 0)
theorem whole_cons (p : List UInt8) (l : List (List UInt8)) (k : Nat) : whole (p :: l) k = if (put p).1.length ≤ k then (1 + (whole l (k - (put p).1.length)).1, (put p).1.length + (whole l (k - (put p).1.length)).2) else (0, 0) := rfl
theorem whole_le : ∀ (l : List (List UInt8)) (k : Nat), (whole l k).1 ≤ l.length ∧ (whole l k).2 ≤ k
  | [], k => ⟨Nat.le_refl _, Nat.zero_le _⟩
  | p :: l, k => by
    unfold whole
    split
    · have := whole_le l (k - (put p).1.length)
      simp only [List.length_cons]
      omega
    · exact ⟨Nat.zero_le _, Nat.zero_le _⟩
theorem all_cut : ∀ (l : List (List UInt8)) (k : Nat), (∀ p ∈ l, p.length ≤ 65536) → k ≤ (frames l).length → all ((frames l).take k) = (l.take (whole l k).1, (whole l k).2, if (whole l k).2 = k then 0 else 6)
  | [], k, _, hk => by
    obtain rfl : k = 0 := by simpa [frames] using hk
    show all [] = _
    rw [all_nil]
    rfl
  | p :: l, k, hp, hk => by
    have h1 := hp p (List.mem_cons_self ..)
    have h2 := put_pos h1
    rw [show frames (p :: l) = (put p).1 ++ frames l from rfl] at hk ⊢
    rw [List.length_append] at hk
    unfold whole
    by_cases c : (put p).1.length ≤ k
    · have hi := all_cut l (k - (put p).1.length) (fun q hq => hp q (List.mem_cons_of_mem _ hq)) (by omega)
      rw [if_pos c, List.take_append, List.take_of_length_le c, all_put h1, hi]
      have e : (put p).1.length + (whole l (k - (put p).1.length)).2 = k ↔ (whole l (k - (put p).1.length)).2 = k - (put p).1.length := by omega
      refine Prod.ext ?_ (Prod.ext rfl ?_)
      · show p :: _ = (p :: l).take (1 + _)
        rw [Nat.add_comm, List.take_succ_cons]
      · show (if _ then 0 else 6) = if _ then 0 else 6
        by_cases d : (whole l (k - (put p).1.length)).2 = k - (put p).1.length
        · rw [if_pos d, if_pos (e.2 d)]
        · rw [if_neg d, if_neg (fun x => d (e.1 x))]
    · rw [if_neg c, List.take_append_of_le_length (by omega)]
      by_cases k0 : k = 0
      · subst k0
        show all [] = _
        rw [all_nil]
        rfl
      · have hg := get_cut h1 (i := k) (by omega)
        have hne : (put p).1.take k ≠ [] := by
          intro e
          have := congrArg List.length e
          rw [List.length_take, List.length_nil] at this
          omega
        rw [all_stop hne (by rw [hg]; exact (by decide)), hg, if_neg (fun x => k0 x.symm)]
        rfl
end Go.Proofs.Ytfibccfbcehheaa.FSeq
