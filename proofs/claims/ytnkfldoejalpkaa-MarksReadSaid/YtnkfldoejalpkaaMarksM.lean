/- Marks: the calls. -/
import Derived.Test.YtnkfldoejalpkaaMarksC
namespace Go.Proofs.Ytnkfldoejalpkaa.Marks
open Go.RowKit Aid PMarks
/-- marks that are made -/
structure Good (s : St) : Prop where
  ok : Ok s
  lo : 0 ≤ s.bound
  hi : s.bound ≤ 1099511627776
  one : 1 ≤ s.l.length
theorem Good.put {s : St} (h : Good s) (k : Nat) (x : Src) : Good (put s k x) := ⟨put_ok _ _ _, h.lo, h.hi, by rw [put_length]; exact h.one⟩
theorem Good.tell {s : St} (h : Good s) (k : Nat) (t : Int) : Good (tell s k t) := h.put _ _
theorem Good.rest {s : St} (h : Good s) (k : Nat) : Good (rest s k) := h.put _ _
theorem Good.act {s : St} (h : Good s) (o : PMarks.Op) : Good (act s o) := by
  unfold PMarks.act see tellE idleE
  split
  · split
    · exact h.tell _ _
    · exact h
  · split
    · split
      · exact h.tell _ _
      · exact h
    · split
      · split
        · exact h.rest _
        · exact h
      · exact h
theorem code_good {s : St} (h : Good s) (k t : Int) : code s k t = if asked s k t then 0 else 2 := if_neg (by have := h.one; omega)
theorem tell_any (b k : Nat) (s : St) (t : Int) (w : World) (h : Held w b s) (hk : k < s.l.length) (hok : Ok s) :
    Calls Try.prog 25 #[.pointer (some ⟨b, 0, none⟩), .int .i64 k, .int .i64 t] w fun e w' => e = .returned (.tuple #[]) ∧ Held w' b (tell s k t) ∧ w.grownBy w' (some b) := by
  have hm := h.mark k (by have := h.le; omega)
  rw [src_at _ _ hk] at hm
  have HC := Lib.hid fun (x : Src) => change_any b k s x w h hk hok
  have hE : tell s k t = put s k (mx (s.l.getD k (0, false)).1 t, false) := rfl
  rw [hE]
  have k0 : (k : Int) < 16 := by have := h.le; omega
  have k1 : 0 ≤ (k : Int) := by omega
  clear hE h
  generalize (s.l.getD k (0, false)).1 = m at hm ⊢
  unfold mx
  by_cases hmt : m < t
  · rw [if_pos hmt]
    go_enter Try.func25, Try.ntmps25
    go_wp2_with fail
    refine (HC.out (t, false)).mono ?_
    rintro e w' ⟨rfl, h1, h2⟩
    go_wp2_with fail
    go_end0
    exact ⟨rfl, h1, h2⟩
  · rw [if_neg hmt]
    go_enter Try.func25, Try.ntmps25
    go_wp2_with fail
    refine (HC.out (m, false)).mono ?_
    rintro e w' ⟨rfl, h1, h2⟩
    go_wp2_with fail
    go_end0
    exact ⟨rfl, h1, h2⟩
theorem asked_good (b : Nat) (s : St) (k t : Int) (w : World) (h : Held w b s) (hg : Good s) : Calls Try.prog 24 #[.pointer (some ⟨b, 0, none⟩), .int .i64 k, .int .i64 t] w fun e w' => e = .returned (.int .i64 (if asked s k t then 0 else 2)) ∧ w = w' := by
  rw [← code_good hg]
  exact asked_any b s k t w h
theorem asked_lo {s : St} {k t : Int} (h : asked s k t = true) : ∃ q : Nat, k = q ∧ q < s.l.length ∧ -1125899906842624 ≤ t ∧ t ≤ 1125899906842624 := by
  have := (asked_iff s k t).1 h
  unfold PMarks.T at this
  exact ⟨k.toNat, by omega, by omega, by omega, by omega⟩
theorem Tell_any (b : Nat) (s : St) (k t : Int) (w : World) (h : Held w b s) (hg : Good s) :
    Calls Try.prog 15 #[.pointer (some ⟨b, 0, none⟩), .int .i64 k, .int .i64 t] w fun e w' => e = .returned (.int .i64 (tellE s k t).2) ∧ Held w' b (tellE s k t).1 ∧ w.grownBy w' (some b) := by
  have HA := Lib.hid (asked_good b s k t w h hg)
  unfold tellE
  cases ha : asked s k t with
  | true =>
    rw [ha] at HA
    obtain ⟨q, rfl, hq, -, -⟩ := asked_lo ha
    rw [Int.toNat_natCast]
    have HT := Lib.hid (tell_any b q s t w h hq hg.ok)
    clear ha hg h
    go_enter Try.func15, Try.ntmps15
    go_wp2_with fail
    refine (HA.out).mono ?_
    rintro e w' ⟨rfl, rfl⟩
    go_wp2_with fail
    refine (HT.out).mono ?_
    rintro e w' ⟨rfl, h1, h2⟩
    go_wp2_with fail
    go_ret
    exact ⟨rfl, h1, h2⟩
  | false =>
    rw [ha] at HA
    have HH := Lib.hid h
    clear ha hg h
    go_enter Try.func15, Try.ntmps15
    go_wp2_with fail
    refine (HA.out).mono ?_
    rintro e w' ⟨rfl, rfl⟩
    go_wp2_with fail
    go_ret
    exact ⟨rfl, HH.out, only_refl _ _⟩
theorem Idle_any (b : Nat) (s : St) (k : Int) (w : World) (h : Held w b s) (hg : Good s) :
    Calls Try.prog 16 #[.pointer (some ⟨b, 0, none⟩), .int .i64 k] w fun e w' => e = .returned (.int .i64 (idleE s k).2) ∧ Held w' b (idleE s k).1 ∧ w.grownBy w' (some b) := by
  have HA := Lib.hid (asked_good b s k 0 w h hg)
  unfold idleE
  cases ha : asked s k 0 with
  | true =>
    rw [ha] at HA
    obtain ⟨q, rfl, hq, -, -⟩ := asked_lo ha
    rw [Int.toNat_natCast]
    have HT := Lib.hid (change_any b q s ((s.l.getD q (0, false)).1, true) w h hq hg.ok)
    have hm := h.mark q (by have := h.le; omega)
    rw [src_at _ _ hq] at hm
    have hE : rest s q = put s q ((s.l.getD q (0, false)).1, true) := rfl
    have k0 : (q : Int) < 16 := by have := h.le; omega
    have k1 : 0 ≤ (q : Int) := by omega
    show Calls _ _ _ _ fun e w' => e = .returned (.int .i64 0) ∧ Held w' b (rest s q) ∧ _
    rw [hE]
    clear ha hg h hE
    generalize (s.l.getD q (0, false)).1 = m at hm HT ⊢
    go_enter Try.func16, Try.ntmps16
    go_wp2_with fail
    refine (HA.out).mono ?_
    rintro e w' ⟨rfl, rfl⟩
    go_wp2_with fail
    refine (HT.out).mono ?_
    rintro e w' ⟨rfl, h1, h2⟩
    go_wp2_with fail
    go_ret
    exact ⟨rfl, h1, h2⟩
  | false =>
    rw [ha] at HA
    have HH := Lib.hid h
    clear ha hg h
    go_enter Try.func16, Try.ntmps16
    go_wp2_with fail
    refine (HA.out).mono ?_
    rintro e w' ⟨rfl, rfl⟩
    go_wp2_with fail
    go_ret
    exact ⟨rfl, HH.out, only_refl _ _⟩
theorem See_any (b : Nat) (s : St) (k t : Int) (w : World) (h : Held w b s) (hg : Good s) :
    Calls Try.prog 13 #[.pointer (some ⟨b, 0, none⟩), .int .i64 k, .int .i64 t] w fun e w' => e = .returned (.tuple #[.bool (see s k t).2.1, .int .i64 (see s k t).2.2]) ∧ Held w' b (see s k t).1 ∧ w.grownBy w' (some b) := by
  have HA := Lib.hid (asked_good b s k t w h hg)
  unfold see
  cases ha : asked s k t with
  | true =>
    rw [ha] at HA
    obtain ⟨q, rfl, hq, t0, t1⟩ := asked_lo ha
    rw [Int.toNat_natCast]
    have HT := Lib.hid (tell_any b q s (t - s.bound - 1) w h hq hg.ok)
    have hb := h.bound
    have hn := h.now
    have b0 := hg.lo
    have b1 := hg.hi
    clear ha hg h
    show Calls _ _ _ _ fun e w' => e = .returned (.tuple #[.bool (decide (t ≤ s.now)), .int .i64 0]) ∧ Held w' b (tell s q (t - s.bound - 1)) ∧ _
    generalize s.bound = bd at hb b0 b1 HT ⊢
    generalize s.now = nw at hn ⊢
    go_enter Try.func13, Try.ntmps13
    go_wp2_with fail
    refine (HA.out).mono ?_
    rintro e w' ⟨rfl, rfl⟩
    go_wp2_with fail
    refine (HT.out).mono ?_
    rintro e w' ⟨rfl, h1, h2⟩
    go_wp2_with fail
    go_ret2
    exact ⟨rfl, h1, h2⟩
  | false =>
    rw [ha] at HA
    have HH := Lib.hid h
    clear ha hg h
    go_enter Try.func13, Try.ntmps13
    go_wp2_with fail
    refine (HA.out).mono ?_
    rintro e w' ⟨rfl, rfl⟩
    go_wp2_with fail
    go_ret2
    exact ⟨rfl, HH.out, only_refl _ _⟩
end Go.Proofs.Ytnkfldoejalpkaa.Marks
