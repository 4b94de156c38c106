/- Marks: what the times are, whatever is called. -/
import Derived.Test.YtnkfldoejalpkaaMarksD
namespace Go.Proofs.Ytnkfldoejalpkaa.Marks
open Go.RowKit Aid PMarks Txt
/-- the times are within bounds -/
structure Rng (s : St) : Prop where
  all : ∀ x ∈ s.l, -1126999418470401 ≤ x.1 ∧ x.1 ≤ 1125899906842624
  lo : -1125899906842624 ≤ s.now
  hi : s.now ≤ 1125899906842624
theorem Rng.put {s : St} (h : Rng s) (k : Nat) (x : Src) (hx : -1126999418470401 ≤ x.1 ∧ x.1 ≤ 1125899906842624) : Rng (put s k x) := by
  have ha : ∀ y ∈ s.l.set k x, -1126999418470401 ≤ y.1 ∧ y.1 ≤ 1125899906842624 := fun y hy => by
    rcases List.mem_or_eq_of_mem_set hy with h1 | h1
    · exact h.all y h1
    · rw [h1]; exact hx
  refine ⟨ha, ?_, ?_⟩
  · exact Int.le_trans h.lo (mxo_le _ _)
  · show mxo s.now (least (s.l.set k x)) ≤ _
    have hi := h.hi
    cases hl : least (s.l.set k x) with
    | none => exact hi
    | some y =>
      have := ha _ (least_mem hl)
      simp only [mxo]
      split
      · exact this.2
      · exact hi
theorem Rng.old {s : St} (h : Rng s) (k : Nat) : -1126999418470401 ≤ (s.l.getD k (0, false)).1 ∧ (s.l.getD k (0, false)).1 ≤ 1125899906842624 := by
  rw [List.getD_eq_getElem?_getD]
  by_cases hk : k < s.l.length
  · rw [List.getElem?_eq_getElem hk]
    exact h.all _ (List.getElem_mem hk)
  · rw [List.getElem?_eq_none (by omega)]
    exact ⟨by show (-1126999418470401 : Int) ≤ 0; omega, by show (0 : Int) ≤ 1125899906842624; omega⟩
theorem Rng.tell {s : St} (h : Rng s) (k : Nat) (t : Int) (t0 : -1126999418470401 ≤ t) (t1 : t ≤ 1125899906842624) : Rng (tell s k t) := by
  refine h.put _ _ ?_
  have := h.old k
  unfold PMarks.mx
  dsimp only
  split <;> omega
theorem Rng.rest {s : St} (h : Rng s) (k : Nat) : Rng (rest s k) := h.put _ _ (h.old k)
theorem Rng.act {s : St} (h : Rng s) (hg : Good s) (o : PMarks.Op) : Rng (act s o) := by
  have b0 := hg.lo
  have b1 := hg.hi
  unfold PMarks.act see tellE idleE
  split
  · split
    · rename_i ha
      have := (asked_iff _ _ _).1 ha
      unfold PMarks.T at this
      exact h.tell _ _ (by omega) (by omega)
    · exact h
  · split
    · split
      · rename_i ha
        have := (asked_iff _ _ _).1 ha
        unfold PMarks.T at this
        exact h.tell _ _ (by omega) (by omega)
      · exact h
    · split
      · split
        · exact h.rest _
        · exact h
      · exact h
theorem Rng.acts {s : St} (h : Rng s) (hg : Good s) (l : List PMarks.Op) : Rng (acts s l) := by
  induction l generalizing s with
  | nil => exact h
  | cons o l ih => exact ih (h.act hg o) (hg.act o)
theorem rng_mk0 (n : Nat) (bound : Int) : Rng (mk0 n bound) := by
  refine ⟨fun x hx => ?_, by show -1125899906842624 ≤ (-1125899906842624 : Int); omega, by show (-1125899906842624 : Int) ≤ 1125899906842624; omega⟩
  have : x = (-PMarks.T, false) := by
    have := List.eq_of_mem_replicate hx
    exact this
  rw [this]
  exact ⟨by show (-1126999418470401 : Int) ≤ -1125899906842624; omega, by show (-1125899906842624 : Int) ≤ 1125899906842624; omega⟩
theorem text_rng (b : Nat) (s : St) (hg : Good s) (hr : Rng s) (w : World) (h : Held w b s) : Calls Try.prog 18 #[.pointer (some ⟨b, 0, none⟩)] w fun e w' => e = .returned (.tuple #[.string (B (text s)), .int .i64 0]) ∧ Below w.heap.size w w' :=
  text_any b s hg ⟨by have := hr.lo; omega, by have := hr.hi; omega⟩ (fun x hx => ⟨by have := hr.all x hx; omega, by have := hr.all x hx; omega⟩) w h
/-- one call in a block of its own -/
theorem ops_one {w : World} {g : Nat} {t : TypeId} {o : PMarks.Op} (h : Blk w g t #[.int .i64 o.do_, .int .i64 o.src, .int .i64 o.t]) : OpsAt w (some ⟨g, 0, none⟩) [o] := by
  intro i hi
  obtain rfl : i = 0 := by simpa using hi
  exact ⟨⟨g, 0, none⟩, rfl, (h.cell 0).trans rfl, (h.cell 1).trans rfl, (h.cell 2).trans rfl⟩
theorem does_one (b : Nat) (s : St) (hg : Good s) (g : Nat) (t : TypeId) (o : PMarks.Op) (w : World) (h : Held w b s) (hb : Blk w g t #[.int .i64 o.do_, .int .i64 o.src, .int .i64 o.t]) (hne : g ≠ b) :
    Calls Try.prog 17 #[.pointer (some ⟨b, 0, none⟩), .slice (some ⟨g, 0, none⟩) 1 1] w fun e w' => e = .returned (.string (B (says s o))) ∧ Held w' b (act s o) ∧ w.grownBy w' (some b) := by
  have := does_any b s hg (some ⟨g, 0, none⟩) 1 [o] (by simp) w h (ops_one hb) (fun ad e _ => by injection e with e; rw [← e]; exact hne)
  have e1 : saysAll s [o] = says s o := by simp [saysAll]
  rw [e1] at this
  exact this
end Go.Proofs.Ytnkfldoejalpkaa.Marks
