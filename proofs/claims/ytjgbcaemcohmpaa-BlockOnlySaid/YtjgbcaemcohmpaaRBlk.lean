/- Package block's printed functions are the plain ones: Check, ahead, Order, four. -/
import Derived.Test.YtjgbcaemcohmpaaBlockC
import Derived.Test.YtjgbcaemcohmpaaPrint5
import Derived.Test.YtjgbcaemcohmpaaPrint6
import Derived.Test.YtjgbcaemcohmpaaPrint7
import Derived.Test.YtjgbcaemcohmpaaPrint8
namespace Go.Proofs.Ytjgbcaemcohmpaa.Block
open Go.RowKit Aid Txt Print Go.Proofs.YtjgbcaemcohmpaaW.PrintWords
/-- a row as the plain theory has it -/
def rowS (x : S31) : PBlock.Row := ⟨L x.f0, x.f1.toNat, x.f2, L x.f3⟩
/-- its numbers are a machine's -/
structure Fit (x : S31) : Prop where
  s0 : 0 ≤ x.f1
  s1 : x.f1 < 18446744073709551616
theorem L_toList (s : ByteArray) : s.toList = L s := ByteArray.toList_eq s
theorem check_eq (x : S31) (h : Fit x) (k : Nat) : block_Check.f (k + 3) x.f0 x.f1 x.f2 x.f3 = some ((PBlock.check (rowS x) : Nat) : Int) := by
  obtain ⟨a, s, q, v⟩ := x
  obtain ⟨h0, h1⟩ := h
  dsimp only at h0 h1
  unfold block_Check.f PBlock.check rowS
  dsimp only
  simp only [block_Check.j0, block_Check.j1, block_Check.j2, L_length, L_toList]
  by_cases c1 : q = 1
  · subst c1
    by_cases c2 : L a = []
    · simp [c2]
    · by_cases c3 : s < 1
      · have : s.toNat = 0 := by omega
        simp [c2, c3, this]
      · have e1 : ¬ s.toNat = 0 := by omega
        by_cases c4 : 72057594037927936 ≤ s
        · have : 72057594037927935 < s.toNat := by omega
          simp [c2, c3, c4, this]
        · have e2 : ¬ 72057594037927935 < s.toNat := by omega
          by_cases c5 : 520 < a.size
          · have : (520 : Int) < (a.size : Int) := by omega
            simp [c2, c3, c4, e1, e2, c5, this]
          · have e5 : ¬ (520 : Int) < (a.size : Int) := by omega
            by_cases c6 : 2048 < v.size
            · have : (2048 : Int) < (v.size : Int) := by omega
              simp [c2, c3, c4, e1, e2, c5, e5, c6, this]
            · have : ¬ (2048 : Int) < (v.size : Int) := by omega
              simp [c2, c3, c4, e1, e2, c5, e5, c6, this]
  · by_cases c1' : q = 2
    · subst c1'
      by_cases c2 : L a = []
      · simp [c2]
      · by_cases c7 : L v = []
        · by_cases c3 : s < 1
          · have : s.toNat = 0 := by omega
            simp [c2, c3, c7, this]
          · have e1 : ¬ s.toNat = 0 := by omega
            by_cases c4 : 72057594037927936 ≤ s
            · have : 72057594037927935 < s.toNat := by omega
              simp [c2, c3, c4, c7, this]
            · have e2 : ¬ 72057594037927935 < s.toNat := by omega
              by_cases c5 : 520 < a.size
              · have : (520 : Int) < (a.size : Int) := by omega
                simp [c2, c3, c4, c7, e1, e2, c5, this]
              · have e5 : ¬ (520 : Int) < (a.size : Int) := by omega
                by_cases c6 : 2048 < v.size
                · have : (2048 : Int) < (v.size : Int) := by omega
                  simp [c2, c3, c4, c7, e1, e2, c5, e5, c6, this]
                · have : ¬ (2048 : Int) < (v.size : Int) := by omega
                  simp [c2, c3, c4, c7, e1, e2, c5, e5, c6, this]
        · simp [c2, c7]
    · simp [c1, c1']
theorem ahead_eq (x : S31) (hx : Fit x) (key : ByteArray) (s : Int) (h0 : 0 ≤ s) : block_ahead.f x.f0 x.f1 x.f2 x.f3 key s = some (PBlock.ahead (rowS x) (L key) s.toNat) := by
  obtain ⟨a, q, c, v⟩ := x
  obtain ⟨g0, g1⟩ := hx
  dsimp only at g0 g1
  unfold block_ahead.f PBlock.ahead rowS
  dsimp only
  rw [L_toList, L_toList]
  have e : (decide (q > s)) = decide (s.toNat < q.toNat) := decide_eq_decide.2 (by omega)
  show (if PCode.lt (L a) (L key) = true then some true else if L a = L key then some (decide (q > s)) else some false) = some (PCode.lt (L a) (L key) || (L a == L key && decide (s.toNat < q.toNat)))
  rw [e]
  cases PCode.lt (L a) (L key) with
  | true => rfl
  | false =>
    by_cases c2 : L a = L key
    · rw [if_neg (by simp), if_pos c2, c2]; simp
    · rw [if_neg (by simp), if_neg c2, beq_eq_false_iff_ne.2 c2]; simp
theorem four_eq (n : Nat) : block_four.f (n : Int) = some (B (PBlock.four n)) := by
  unfold block_four.f PBlock.four
  congr 1
/-! the order of rows -/
theorem at_S31 (l : List S31) (i : Nat) (h : i < l.length) : rd_T31 l (i : Int) = l[i] := by
  unfold rd_T31
  rw [Int.toNat_natCast, List.getD_eq_getElem?_getD, List.getElem?_eq_getElem h]; rfl
theorem order_ev (l : List S31) (hl : ∀ x ∈ l, Fit x) (hs : l.length ≤ 9223372036854775806) (d : Nat) : ∀ i : Nat, i < l.length → l.length - (i + 1) ≤ d → Ev (fun k => block_Order.l0 k l ((i + 1 : Nat) : Int)) (PBlock.order ((l.drop i).map rowS)) := by
  induction d with
  | zero =>
    intro i hi hd
    refine Ev.step (f := fun _ => some true) (fun k => ?_) ?_
    · simp only [block_Order.l0]
      rw [if_neg (by omega)]
    · have : (l.drop i).map rowS = [rowS l[i]] := by
        rw [List.drop_eq_getElem_cons hi, List.drop_eq_nil_of_le (by omega)]; rfl
      rw [this]
      exact Ev.now _
  | succ d ih =>
    intro i hi hd
    by_cases h1 : i + 1 < l.length
    · have e1 : (l.drop i).map rowS = rowS l[i] :: rowS l[i + 1] :: ((l.drop (i + 1 + 1)).map rowS) := by
        rw [List.drop_eq_getElem_cons hi, List.drop_eq_getElem_cons h1]; rfl
      have e2 : (l.drop (i + 1)).map rowS = rowS l[i + 1] :: ((l.drop (i + 1 + 1)).map rowS) := by
        rw [List.drop_eq_getElem_cons h1]; rfl
      have ha := ahead_eq l[i] (hl _ (List.getElem_mem _)) (l[i + 1]).f0 (l[i + 1]).f1 (hl _ (List.getElem_mem _)).s0
      have hw : wrap64 (((i + 1 : Nat) : Int) - 1) = (i : Int) := by rw [wrap_id (by omega) (by omega)]; omega
      have hn : wrap64 (((i + 1 : Nat) : Int) + 1) = ((i + 1 + 1 : Nat) : Int) := by rw [wrap_id (by omega) (by omega)]; omega
      cases hc : PBlock.ahead (rowS l[i]) (L (l[i + 1]).f0) (l[i + 1]).f1.toNat with
      | true =>
        have e := ih (i + 1) h1 (by omega)
        refine Ev.step (fun k => ?_) (by rw [e1, PBlock.order, show PBlock.ahead (rowS l[i]) (rowS l[i + 1]).key (rowS l[i + 1]).seq = true from hc, Bool.true_and, ← e2]; exact e)
        simp only [block_Order.l0]
        rw [if_pos (by omega), hw, if_pos (by omega), if_pos (by omega), if_pos (by omega), at_S31 l i hi, at_S31 l (i + 1) h1, ha, hc, Option.bind_some, if_pos rfl, hn]
      | false =>
        refine Ev.step (f := fun _ => some false) (fun k => ?_) (by rw [e1, PBlock.order, show PBlock.ahead (rowS l[i]) (rowS l[i + 1]).key (rowS l[i + 1]).seq = false from hc, Bool.false_and]; exact Ev.now _)
        simp only [block_Order.l0]
        rw [if_pos (by omega), hw, if_pos (by omega), if_pos (by omega), if_pos (by omega), at_S31 l i hi, at_S31 l (i + 1) h1, ha, hc, Option.bind_some, if_neg (by simp)]
    · refine Ev.step (f := fun _ => some true) (fun k => ?_) ?_
      · simp only [block_Order.l0]
        rw [if_neg (by omega)]
      · have : (l.drop i).map rowS = [rowS l[i]] := by
          rw [List.drop_eq_getElem_cons hi, List.drop_eq_nil_of_le (by omega)]; rfl
        rw [this]
        exact Ev.now _
theorem order_eq (l : List S31) (hl : ∀ x ∈ l, Fit x) (hs : l.length ≤ 9223372036854775806) : Ev (fun k => block_Order.f k l) (PBlock.order (l.map rowS)) := by
  unfold block_Order.f
  cases l with
  | nil =>
    refine Ev.step (f := fun _ => some true) (fun k => ?_) (Ev.now _)
    simp only [block_Order.l0]
    rw [if_neg (by simp)]
  | cons a l =>
    have := order_ev (a :: l) hl hs _ 0 (by simp) (Nat.le_refl _)
    simp only [List.drop_zero] at this
    exact this
end Go.Proofs.Ytjgbcaemcohmpaa.Block
