/- Marks: they are made; none. -/
import Derived.Test.YtnkfldoejalpkaaMarksM
namespace Go.Proofs.Ytnkfldoejalpkaa.Marks
open Go.RowKit Aid PMarks
theorem Held.setMark {w : World} {b k : Nat} {s : St} (h : Held w b s) (m : Int) (hk : k < s.l.length) : Held (w.setCell ⟨b, 2 + k * 2, none⟩ (.int .i64 m)) b { s with l := s.l.set k (m, (src s.l k).2) } := by
  have hle := h.le
  refine ⟨?_, cell_off (by omega) h.bound, fun j hj => ?_, fun j hj => ?_, cell_off (by omega) h.now, fun j hj => by rw [World.frozen?_setCell]; exact h.free j hj, by simpa using hle⟩
  · show _ = some (Value.int .i64 ((s.l.set k (m, (src s.l k).2)).length : Int))
    rw [List.length_set]
    exact cell_off (by omega) h.n
  · show _ = some (Value.int .i64 (src (s.l.set k (m, (src s.l k).2)) j).1)
    rw [src_set _ _ _ _ hk]
    by_cases e : j = k
    · subst e
      rw [if_pos rfl]
      exact World.cell?_setCell_same _ _ _ (h.mark j hj)
    · rw [if_neg e]
      exact cell_off (by omega) (h.mark j hj)
  · show _ = some (Value.bool (src (s.l.set k (m, (src s.l k).2)) j).2)
    rw [src_set _ _ _ _ hk]
    by_cases e : j = k
    · subst e
      rw [if_pos rfl]
      exact cell_off (by omega) (h.idle j hj)
    · rw [if_neg e]
      exact cell_off (by omega) (h.idle j hj)
theorem Held.setIdle {w : World} {b k : Nat} {s : St} (h : Held w b s) (d : Bool) (hk : k < s.l.length) : Held (w.setCell ⟨b, 2 + k * 2 + 1, none⟩ (.bool d)) b { s with l := s.l.set k ((src s.l k).1, d) } := by
  have hle := h.le
  refine ⟨?_, cell_off (by omega) h.bound, fun j hj => ?_, fun j hj => ?_, cell_off (by omega) h.now, fun j hj => by rw [World.frozen?_setCell]; exact h.free j hj, by simpa using hle⟩
  · show _ = some (Value.int .i64 ((s.l.set k ((src s.l k).1, d)).length : Int))
    rw [List.length_set]
    exact cell_off (by omega) h.n
  · show _ = some (Value.int .i64 (src (s.l.set k ((src s.l k).1, d)) j).1)
    rw [src_set _ _ _ _ hk]
    by_cases e : j = k
    · subst e
      rw [if_pos rfl]
      exact cell_off (by omega) (h.mark j hj)
    · rw [if_neg e]
      exact cell_off (by omega) (h.mark j hj)
  · show _ = some (Value.bool (src (s.l.set k ((src s.l k).1, d)) j).2)
    rw [src_set _ _ _ _ hk]
    by_cases e : j = k
    · subst e
      rw [if_pos rfl]
      exact World.cell?_setCell_same _ _ _ (h.idle j hj)
    · rw [if_neg e]
      exact cell_off (by omega) (h.idle j hj)
theorem src_zero (n k : Nat) : src (List.replicate n (0, false)) k = (0, false) := by
  unfold src full
  rw [List.length_replicate, List.replicate_append_replicate, List.getD_eq_getElem?_getD, List.getElem?_replicate]
  split <;> rfl
/-- the cells of marks at which nothing has been seen -/
def zeroCells (n bound now : Int) : Array Value := #[.int .i64 n, .int .i64 bound, .int .i64 0, .bool false, .int .i64 0, .bool false, .int .i64 0, .bool false, .int .i64 0, .bool false, .int .i64 0, .bool false, .int .i64 0, .bool false, .int .i64 0, .bool false, .int .i64 0, .bool false,
  .int .i64 0, .bool false, .int .i64 0, .bool false, .int .i64 0, .bool false, .int .i64 0, .bool false, .int .i64 0, .bool false, .int .i64 0, .bool false, .int .i64 0, .bool false, .int .i64 0, .bool false, .int .i64 now]
theorem held_zero {w : World} {b n : Nat} {bound now : Int} {t : TypeId} (hn : n ≤ 16) (h : Blk w b t (zeroCells n bound now)) : Held w b ⟨bound, List.replicate n (0, false), now⟩ := by
  refine ⟨?_, (h.cell 1).trans rfl, fun k hk => ?_, fun k hk => ?_, (h.cell 34).trans rfl, fun j _ => h.frozen j, by simpa using hn⟩
  · rw [h.cell 0]
    simp [zeroCells]
  · rw [h.cell]
    show _ = some (Value.int .i64 (src (List.replicate n (0, false)) k).1)
    rw [src_zero]
    match k, hk with
    | 0, _ | 1, _ | 2, _ | 3, _ | 4, _ | 5, _ | 6, _ | 7, _ | 8, _ | 9, _ | 10, _ | 11, _ | 12, _ | 13, _ | 14, _ | 15, _ => rfl
    | k + 16, hk => exact absurd hk (by omega)
  · rw [h.cell]
    show _ = some (Value.bool (src (List.replicate n (0, false)) k).2)
    rw [src_zero]
    match k, hk with
    | 0, _ | 1, _ | 2, _ | 3, _ | 4, _ | 5, _ | 6, _ | 7, _ | 8, _ | 9, _ | 10, _ | 11, _ | 12, _ | 13, _ | 14, _ | 15, _ => rfl
    | k + 16, hk => exact absurd hk (by omega)
/-- may marks of so many sources be -/
def fit (n bound : Int) : Bool := decide (1 ≤ n ∧ n ≤ 16 ∧ 0 ≤ bound ∧ bound ≤ 1099511627776)
theorem new_bad (n bound : Int) (h : fit n bound = false) (w : World) : Calls Try.prog 11 #[.int .i64 n, .int .i64 bound] w fun e w' => e = .returned (.tuple #[.pointer none, .int .i64 2]) ∧ w = w' := by
  have h0 := of_decide_eq_false h
  clear h
  by_cases h1 : n < 1
  · go_enter Try.func11, Try.ntmps11
    go_wp2_with fail
    go_ret2
    exact ⟨rfl, rfl⟩
  · by_cases h2 : 16 < n
    · clear h0
      go_enter Try.func11, Try.ntmps11
      go_wp2_with fail
      go_ret2
      exact ⟨rfl, rfl⟩
    · by_cases h3 : bound < 0
      · clear h0
        go_enter Try.func11, Try.ntmps11
        go_wp2_with fail
        go_ret2
        exact ⟨rfl, rfl⟩
      · have h4 : 1099511627776 < bound := by omega
        clear h0
        go_enter Try.func11, Try.ntmps11
        go_wp2_with fail
        go_ret2
        exact ⟨rfl, rfl⟩
theorem src_next (n i : Nat) (h : i < n) : (List.replicate i ((-1125899906842624 : Int), false) ++ List.replicate (n - i) (0, false)).set i (-1125899906842624, (src (List.replicate i (-1125899906842624, false) ++ List.replicate (n - i) (0, false)) i).2) = List.replicate (i + 1) ((-1125899906842624 : Int), false) ++ List.replicate (n - (i + 1)) (0, false) := by
  rw [src_at _ _ (by simp; omega)]
  obtain ⟨m, hm⟩ : ∃ m, n - i = m + 1 := ⟨n - i - 1, by omega⟩
  rw [hm, show n - (i + 1) = m by omega, List.replicate_succ, List.replicate_succ', List.set_append, if_neg (by simp), List.getD_eq_getElem?_getD, List.getElem?_append_right (by simp)]
  simp
theorem new_any (n : Nat) (bound : Int) (h1 : 1 ≤ n) (h2 : n ≤ 16) (h3 : 0 ≤ bound) (h4 : bound ≤ 1099511627776) (w : World) : Calls Try.prog 11 #[.int .i64 n, .int .i64 bound] w fun e w' => ∃ b, e = .returned (.tuple #[.pointer (some ⟨b, 0, none⟩), .int .i64 0]) ∧ w.heap.size ≤ b ∧ Held w' b (mk0 n bound) ∧ Below w.heap.size w w' := by
  have g1 : ¬ (n : Int) < 1 := by omega
  have g2 : (n : Int) ≤ 16 := by omega
  have g3 : 0 ≤ (n : Int) := by omega
  go_enter Try.func11, Try.ntmps11
  go_wp2_with fail
  have hR := held_zero (n := n) (bound := bound) (now := -1125899906842624) h2 (Blk.new w 45 (zeroCells n bound (-1125899906842624)))
  have hB := (Below.refl w.heap.size w).alloc (Nat.le_refl _) (.cells (zeroCells n bound (-1125899906842624)) 45)
  unfold zeroCells at hR hB
  generalize w.alloc _ = W1 at hR hB ⊢
  have hc : w.heap.size ≤ w.heap.size := Nat.le_refl _
  generalize hcc : w.heap.size = c at hR hB ⊢
  have HC := Lib.hid hcc
  clear hcc hc
  go_loopw [32] (fun v32 wr => ∃ i : Nat, i ≤ n ∧ v32 = .int .i64 i ∧ Held wr c ⟨bound, List.replicate i (-1125899906842624, false) ++ List.replicate (n - i) (0, false), -1125899906842624⟩ ∧ Below c w wr) (fun v32 _ => n - (intOf v32).toNat)
  case atStart => exact ⟨0, by omega, rfl, by simpa using hR, hB⟩
  case round =>
    obtain ⟨i, hi, rfl, hH, hb⟩ := hrel
    by_cases hlt : i < n
    · have t1 : ((i : Int) < (n : Int)) = True := eq_true (by omega)
      have mk := hH.mark i (by omega)
      have fk := hH.free (2 + i * 2) (by omega)
      have h3 := hH.setMark (-1125899906842624) (k := i) (by simp; omega)
      have hs := src_next n i hlt
      simp only at h3
      rw [hs] at h3
      have hb3 := hb.setCell (p := ⟨c, 2 + i * 2, none⟩) (Nat.le_refl _) (.int .i64 (-1125899906842624))
      have i16 : (i : Int) < 16 := by omega
      have H3 := Lib.hid h3
      clear hs h3 hH
      go_wp2_with fail
      go_roundw
      case rel => exact ⟨i + 1, by omega, by go_num, H3.out, hb3⟩
      case measure => simp [intOf]; omega
    · have t1 : ((i : Int) < (n : Int)) = False := eq_false (by omega)
      obtain rfl : i = n := by omega
      go_wp2_with fail
      go_ret2
      refine ⟨c, rfl, by rw [HC.out]; exact Nat.le_refl _, by simpa [mk0, PMarks.T] using hH, by rw [HC.out]; exact hb⟩
/-! none -/
def None_ (p : Option Addr) (w : World) : Prop := ∀ k t : Int, Calls Try.prog 24 #[.pointer p, .int .i64 k, .int .i64 t] w fun e w' => e = .returned (.int .i64 1) ∧ w = w'
theorem none_nil (w : World) : None_ none w := fun k t => asked_nil k t w
theorem none_zero (w : World) (b : Nat) (bound now : Int) (h : Held w b ⟨bound, [], now⟩) : None_ (some ⟨b, 0, none⟩) w := fun k t => asked_any b _ k t w h
theorem See_none (p : Option Addr) (k t : Int) (w : World) (h : None_ p w) : Calls Try.prog 13 #[.pointer p, .int .i64 k, .int .i64 t] w fun e w' => e = .returned (.tuple #[.bool false, .int .i64 1]) ∧ w = w' := by
  have HA := Lib.hid (h k t)
  clear h
  go_enter Try.func13, Try.ntmps13
  go_wp2_with fail
  refine (HA.out).mono ?_
  rintro e w' ⟨rfl, rfl⟩
  go_wp2_with fail
  go_ret2
  exact ⟨rfl, rfl⟩
theorem Tell_none (p : Option Addr) (k t : Int) (w : World) (h : None_ p w) : Calls Try.prog 15 #[.pointer p, .int .i64 k, .int .i64 t] w fun e w' => e = .returned (.int .i64 1) ∧ w = w' := by
  have HA := Lib.hid (h k t)
  clear h
  go_enter Try.func15, Try.ntmps15
  go_wp2_with fail
  refine (HA.out).mono ?_
  rintro e w' ⟨rfl, rfl⟩
  go_wp2_with fail
  go_ret
  exact ⟨rfl, rfl⟩
theorem Idle_none (p : Option Addr) (k : Int) (w : World) (h : None_ p w) : Calls Try.prog 16 #[.pointer p, .int .i64 k] w fun e w' => e = .returned (.int .i64 1) ∧ w = w' := by
  have HA := Lib.hid (h k 0)
  clear h
  go_enter Try.func16, Try.ntmps16
  go_wp2_with fail
  refine (HA.out).mono ?_
  rintro e w' ⟨rfl, rfl⟩
  go_wp2_with fail
  go_ret
  exact ⟨rfl, rfl⟩
theorem Text_none (p : Option Addr) (w : World) (h : None_ p w) : Calls Try.prog 18 #[.pointer p] w fun e w' => e = .returned (.tuple #[.string ⟨#[]⟩, .int .i64 1]) ∧ w = w' := by
  have HA := Lib.hid (h 0 0)
  clear h
  go_enter Try.func18, Try.ntmps18
  go_wp2_with fail
  refine (HA.out).mono ?_
  rintro e w' ⟨rfl, rfl⟩
  go_wp2_with fail
  go_ret2
  exact ⟨rfl, rfl⟩
end Go.Proofs.Ytnkfldoejalpkaa.Marks
