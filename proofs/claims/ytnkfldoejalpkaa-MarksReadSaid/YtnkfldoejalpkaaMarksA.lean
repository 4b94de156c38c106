/- Marks: awake; and marks that are none. -/
import Derived.Test.YtnkfldoejalpkaaMarksN
namespace Go.Proofs.Ytnkfldoejalpkaa.Marks
open Go.RowKit Aid PMarks
theorem see_at {b : Nat} {s s' : St} {k t : Int} {late : Bool} {c : Nat} {w : World} (h : Held w b s) (hg : Good s) (he : see s k t = (s', late, c)) :
    Calls Try.prog 13 #[.pointer (some ⟨b, 0, none⟩), .int .i64 k, .int .i64 t] w fun e w' => e = .returned (.tuple #[.bool late, .int .i64 c]) ∧ Held w' b s' ∧ w.grownBy w' (some b) := by
  have := See_any b s k t w h hg
  rw [he] at this
  exact this
theorem tell_at {b : Nat} {s s' : St} {k t : Int} {c : Nat} {w : World} (h : Held w b s) (hg : Good s) (he : tellE s k t = (s', c)) :
    Calls Try.prog 15 #[.pointer (some ⟨b, 0, none⟩), .int .i64 k, .int .i64 t] w fun e w' => e = .returned (.int .i64 c) ∧ Held w' b s' ∧ w.grownBy w' (some b) := by
  have := Tell_any b s k t w h hg
  rw [he] at this
  exact this
theorem idle_at {b : Nat} {s s' : St} {k : Int} {c : Nat} {w : World} (h : Held w b s) (hg : Good s) (he : idleE s k = (s', c)) :
    Calls Try.prog 16 #[.pointer (some ⟨b, 0, none⟩), .int .i64 k] w fun e w' => e = .returned (.int .i64 c) ∧ Held w' b s' ∧ w.grownBy w' (some b) := by
  have := Idle_any b s k w h hg
  rw [he] at this
  exact this
theorem good_mk0 (n : Nat) (bound : Int) (h1 : 1 ≤ n) (h3 : 0 ≤ bound) (h4 : bound ≤ 1099511627776) : Good (mk0 n bound) := ⟨mk0_ok _ _, h3, h4, by simp [mk0]; omega⟩
def aw0 : St := mk0 2 2
def aw1 : St := ⟨2, [(7, false), (-1125899906842624, false)], -1125899906842624⟩
def aw2 : St := ⟨2, [(7, false), (17, false)], 7⟩
def aw3 : St := ⟨2, [(7, true), (17, false)], 17⟩
theorem aw_1 : see aw0 0 10 = (aw1, false, 0) := rfl
theorem aw_2 : see aw1 1 20 = (aw2, false, 0) := rfl
theorem aw_3 : see aw2 1 7 = (aw2, true, 0) := rfl
theorem aw_4 : idleE aw2 0 = (aw3, 0) := rfl
theorem awake_any (w : World) : Calls Try.prog 12 #[] w fun e w' => e = .returned (.bool true) ∧ Below w.heap.size w w' := by
  have g0 : Good aw0 := good_mk0 2 2 (by omega) (by omega) (by omega)
  have g1 : Good aw1 := by have := g0.tell 0 7; exact this
  have g2 : Good aw2 := by have := g1.tell 1 17; exact this
  have HN := Lib.hid (new_any 2 2 (by omega) (by omega) (by omega) (by omega) w)
  go_enter Try.func12, Try.ntmps12
  go_wp2_with fail
  refine (HN.out).mono ?_
  rintro e w1 ⟨b, rfl, hb, h0, hB⟩
  go_wp2_with fail
  refine (see_at h0 g0 aw_1).mono ?_
  rintro e w2 ⟨rfl, h1, k1⟩
  go_wp2_with fail
  refine (see_at h1 g1 aw_2).mono ?_
  rintro e w3 ⟨rfl, h2, k2⟩
  go_wp2_with fail
  refine (now_any b _ _ h2).mono ?_
  rintro e w4 ⟨rfl, rfl⟩
  go_wp2_with fail
  refine (see_at h2 g2 aw_3).mono ?_
  rintro e w5 ⟨rfl, h3, k3⟩
  go_wp2_with fail
  refine (idle_at h3 g2 aw_4).mono ?_
  rintro e w6 ⟨rfl, h4, k4⟩
  have e2 : aw2.now = 7 := rfl
  have e3 : aw3.now = 17 := rfl
  have HX := Lib.hid (below_of_only (below_of_only (below_of_only (below_of_only hB hb k1) hb k2) hb k3) hb k4)
  have H4 := Lib.hid h4
  clear h0 h1 h2 h3 h4 k1 k2 k3 k4 hB hb
  go_wp2_with fail
  have hn := now_any b _ _ H4.out
  rw [e3] at hn
  refine hn.mono ?_
  rintro e w7 ⟨rfl, rfl⟩
  go_wp2_with fail
  go_ret
  exact ⟨rfl, HX.out⟩
end Go.Proofs.Ytnkfldoejalpkaa.Marks
