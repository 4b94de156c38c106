/- Marks in memory: how they lie, what is asked of them. -/
import Derived.Test.YtnkfldoejalpkaaProg
import Derived.Test.YtnkfldoejalpkaaAid
import Derived.Test.YtnkfldoejalpkaaPMarks
import Derived.WalkKit
import Derived.LoopTactic
import Derived.RegionTactic
import Derived.Deep.MidRow
import Derived.Deep.QuietTactic
import Derived.BigQuiet
namespace Go.Proofs.Ytnkfldoejalpkaa.Marks
open Go.RowKit Aid PMarks
/-- all sixteen sources -/
def full (l : List Src) : List Src := l ++ List.replicate (16 - l.length) (0, false)
def src (l : List Src) (k : Nat) : Src := (full l).getD k (0, false)
theorem full_length (l : List Src) (h : l.length ≤ 16) : (full l).length = 16 := by unfold full; rw [List.length_append, List.length_replicate]; omega
theorem src_at (l : List Src) (k : Nat) (h : k < l.length) : src l k = l.getD k (0, false) := by
  unfold src full
  rw [List.getD_eq_getElem?_getD, List.getElem?_append_left h, List.getD_eq_getElem?_getD]
/-- marks lie in a block -/
structure Held (w : World) (b : Nat) (s : St) : Prop where
  n : w.cell? ⟨b, 0, none⟩ = some (.int .i64 (s.l.length : Int))
  bound : w.cell? ⟨b, 1, none⟩ = some (.int .i64 s.bound)
  mark : ∀ k, k < 16 → w.cell? ⟨b, 2 + k * 2, none⟩ = some (.int .i64 (src s.l k).1)
  idle : ∀ k, k < 16 → w.cell? ⟨b, 2 + k * 2 + 1, none⟩ = some (.bool (src s.l k).2)
  now : w.cell? ⟨b, 34, none⟩ = some (.int .i64 s.now)
  free : ∀ j, j < 35 → w.frozen? ⟨b, j, none⟩ = false
  le : s.l.length ≤ 16
theorem Held.lt {w : World} {b : Nat} {s : St} (h : Held w b s) : b < w.heap.size := World.block_lt_of_cell? w ⟨b, 0, none⟩ h.n
theorem Held.of_block {w w' : World} {b : Nat} {s : St} (h : Held w b s) (hb : w'.heap[b]? = w.heap[b]?) : Held w' b s :=
  ⟨(World.cell?_of_block hb).trans h.n, (World.cell?_of_block hb).trans h.bound, fun k hk => (World.cell?_of_block hb).trans (h.mark k hk), fun k hk => (World.cell?_of_block hb).trans (h.idle k hk),
   (World.cell?_of_block hb).trans h.now, fun j hj => (World.frozen?_of_block hb).trans (h.free j hj), h.le⟩
theorem Held.below {w w' : World} {b n0 : Nat} {s : St} (h : Held w b s) (hb : Below n0 w w') (hn : b < n0) : Held w' b s := h.of_block (hb.block b hn)
theorem Held.grown {w w' : World} {b : Nat} {s : St} {row : Option Nat} (h : Held w b s) (hg : w.grownBy w' row) (hne : some b ≠ row) : Held w' b s := h.of_block (hg.block b h.lt hne)
theorem now_any (b : Nat) (s : St) (w : World) (h : Held w b s) : Calls Try.prog 14 #[.pointer (some ⟨b, 0, none⟩)] w fun e w' => e = .returned (.int .i64 s.now) ∧ w = w' := by
  have hn := h.now
  go_enter Try.func14, Try.ntmps14
  go_wp2_with fail
  go_ret
  exact ⟨rfl, rfl⟩
theorem now_nil (w : World) : Calls Try.prog 14 #[.pointer none] w fun e w' => e = .returned (.int .i64 0) ∧ w = w' := by
  go_enter Try.func14, Try.ntmps14
  go_wp2_with fail
  go_ret
  exact ⟨rfl, rfl⟩
theorem asked_nil (k t : Int) (w : World) : Calls Try.prog 24 #[.pointer none, .int .i64 k, .int .i64 t] w fun e w' => e = .returned (.int .i64 1) ∧ w = w' := by
  go_enter Try.func24, Try.ntmps24
  go_wp2_with fail
  go_ret
  exact ⟨rfl, rfl⟩
/-- what stands against a source and a time -/
def code (s : St) (k t : Int) : Int := if s.l.length = 0 then 1 else if asked s k t then 0 else 2
theorem asked_any (b : Nat) (s : St) (k t : Int) (w : World) (h : Held w b s) : Calls Try.prog 24 #[.pointer (some ⟨b, 0, none⟩), .int .i64 k, .int .i64 t] w fun e w' => e = .returned (.int .i64 (code s k t)) ∧ w = w' := by
  have hn := h.n
  by_cases h0 : s.l.length = 0
  · have e : code s k t = 1 := if_pos h0
    rw [e]
    rw [h0] at hn
    clear e
    go_enter Try.func24, Try.ntmps24
    go_wp2_with fail
    go_ret
    exact ⟨rfl, rfl⟩
  · have e : code s k t = if asked s k t then 0 else 2 := if_neg h0
    have e2 := asked_iff s k t
    unfold PMarks.T at e2
    obtain ⟨n, hl⟩ : ∃ n, n = s.l.length := ⟨_, rfl⟩
    rw [← hl] at hn e2 h0
    rw [e]
    clear e hl h
    have n0 : ((n : Int) == 0) = false := by simp; omega
    by_cases h1 : k < 0
    · have : asked s k t = false := by cases ha : asked s k t with | false => rfl | true => have := e2.1 ha; omega
      rw [this]; clear this e2
      go_enter Try.func24, Try.ntmps24
      go_wp2_with fail
      go_ret
      exact ⟨rfl, rfl⟩
    · by_cases h2 : (n : Int) ≤ k
      · have : asked s k t = false := by cases ha : asked s k t with | false => rfl | true => have := e2.1 ha; omega
        rw [this]; clear this e2
        go_enter Try.func24, Try.ntmps24
        go_wp2_with fail
        go_ret
        exact ⟨rfl, rfl⟩
      · by_cases h3 : t < -1125899906842624
        · have : asked s k t = false := by cases ha : asked s k t with | false => rfl | true => have := e2.1 ha; omega
          rw [this]; clear this e2
          go_enter Try.func24, Try.ntmps24
          go_wp2_with fail
          go_ret
          exact ⟨rfl, rfl⟩
        · by_cases h4 : 1125899906842624 < t
          · have : asked s k t = false := by cases ha : asked s k t with | false => rfl | true => have := e2.1 ha; omega
            rw [this]; clear this e2
            go_enter Try.func24, Try.ntmps24
            go_wp2_with fail
            go_ret
            exact ⟨rfl, rfl⟩
          · have : asked s k t = true := e2.2 (by omega)
            rw [this]; clear this e2
            go_enter Try.func24, Try.ntmps24
            go_wp2_with fail
            go_ret
            exact ⟨rfl, rfl⟩
end Go.Proofs.Ytnkfldoejalpkaa.Marks
