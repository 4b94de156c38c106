/- The range of more parts of a state's key is within that of fewer: for every input. -/
import Derived.Test.YtjlpliapofndcaaRKeys
import Derived.Test.YtjlpliapofndcaaPKeysT
import Derived.Test.YtjlpliapofndcaaPrint14
namespace Go.Proofs.Ytjlpliapofndcaa.Pure
open Go.RowKit Txt Print Go.Proofs.YtjlpliapofndcaaW.PrintWords
theorem range_evN {s0 g0 : Int} {k0 t0 u0 : ByteArray} {p : Int} (hp : (Lit.int .i64 p).wf = true) : Ev (fun _ : Nat => keys_Range.f s0 g0 k0 t0 u0 p) (B (PKeys.range (kOf s0 g0 k0 t0 u0) p).1, B (PKeys.range (kOf s0 g0 k0 t0 u0) p).2.1, ((PKeys.range (kOf s0 g0 k0 t0 u0) p).2.2 : Int)) := by
  rw [keys_range hp]
  exact Ev.now _
theorem nest_go (K : PKeys.K) (m n : Int) (hm : PKeys.rangeErr K m = 0) (hn : PKeys.rangeErr K n = 0) (hle : m ≤ n) :
    Ev (fun k => freshetlaw03_KeysNest.j0 k m n (B (PKeys.first K m.toNat)) (B (PKeys.next (PKeys.first K m.toNat))) (B (PKeys.first K n.toNat)) (B (PKeys.next (PKeys.first K n.toNat))) false) true := by
  obtain ⟨m1, m2, _⟩ := PKeysT.parts_of hm
  obtain ⟨n1, n2, _⟩ := PKeysT.parts_of hn
  obtain ⟨q, c, hq, hc⟩ := PKeysT.first_last hm
  have hz : ∃ z, PKeys.first K n.toNat = PKeys.first K m.toNat ++ z := by
    by_cases e : m = n
    · subst e; exact ⟨[], (List.append_nil _).symm⟩
    · obtain ⟨y, d, h⟩ := PKeysT.first_more K (m := m.toNat) (n := n.toNat) (by omega) (by omega) (by omega)
      exact ⟨_, h⟩
  obtain ⟨z, hz⟩ := hz
  have g1 : ¬ Op.bytesLess (PKeys.first K n.toNat) (PKeys.first K m.toNat) = true := by
    have := PKeys.lt_begin (PKeys.first K m.toNat) z
    rw [← hz] at this
    rw [show Op.bytesLess (PKeys.first K n.toNat) (PKeys.first K m.toNat) = false from this]
    simp
  have g2 : ¬ Op.bytesLess (PKeys.next (PKeys.first K m.toNat)) (PKeys.next (PKeys.first K n.toNat)) = true := by
    by_cases e : m = n
    · subst e
      rw [show Op.bytesLess (PKeys.next (PKeys.first K m.toNat)) (PKeys.next (PKeys.first K m.toNat)) = false from PCode.lt_irrefl _]
      simp
    · obtain ⟨y, d, h⟩ := PKeysT.first_more K (m := m.toNat) (n := n.toNat) (by omega) (by omega) (by omega)
      have h1 : PKeys.next (PKeys.first K n.toNat) = PKeys.first K m.toNat ++ y ++ [d + 1] := by
        rw [h, ← List.append_assoc, PKeys.next_snoc]
      have h2 := PKeys.range_nest (p := q) (q := PKeys.first K m.toNat ++ y) (c := c) (d := d) hc (y ++ [d + 1]) (by rw [hq, List.append_assoc])
      rw [h1, show PKeys.next (PKeys.first K m.toNat) = q ++ [c + 1] by rw [hq, PKeys.next_snoc]]
      rw [show Op.bytesLess (q ++ [c + 1]) (PKeys.first K m.toNat ++ y ++ [d + 1]) = false from h2]
      simp
  have hl : (PKeys.first K m.toNat).length ≤ (PKeys.first K n.toNat).length := by rw [hz, List.length_append]; omega
  refine Ev.step (f := fun _ => (freshetlaw03_awake.f).bind fun t => some t) (fun k => ?_) awake_end
  simp only [freshetlaw03_KeysNest.j0, L_toList]
  rw [if_neg (by simp), if_neg g1, if_neg g2, if_pos (by rw [size_B, size_B]; omega), if_pos (by omega)]
  have hx : L ((B (PKeys.first K n.toNat)).extract 0 ((B (PKeys.first K m.toNat)).size : Int).toNat) = L (B (PKeys.first K m.toNat)) := by
    rw [Int.toNat_natCast, L_take, size_B]
    show (PKeys.first K n.toNat).take _ = PKeys.first K m.toNat
    rw [hz, List.take_left]
  rw [if_pos hx]
  by_cases e : m < n
  · rw [if_pos e]
  · obtain rfl : m = n := by omega
    rw [if_neg e, if_pos rfl, if_pos rfl]
theorem KeysNest (s0 g0 : Int) (k0 t0 u0 : ByteArray) (m n : Int) (_ : (Lit.int .i64 s0).wf = true) (_ : (Lit.int .i64 g0).wf = true) (hm : (Lit.int .i64 m).wf = true) (hn : (Lit.int .i64 n).wf = true) :
    ∃ k, freshetlaw03_KeysNest.f k s0 g0 k0 t0 u0 m n = some true := by
  have h : Ev (fun k => freshetlaw03_KeysNest.f k s0 g0 k0 t0 u0 m n) true := by
    unfold freshetlaw03_KeysNest.f
    refine Ev.bind (range_evN hm) ?_
    refine Ev.bind (range_evN hn) ?_
    generalize kOf s0 g0 k0 t0 u0 = K
    have bad : ∀ a b c d : ByteArray, ∀ f : Bool, f = true → Ev (fun k => freshetlaw03_KeysNest.j0 k m n a b c d f) true := by
      intro a b c d f hf
      subst hf
      exact Ev.step (f := fun _ => (freshetlaw03_awake.f).bind fun t => some t) (fun k => by simp only [freshetlaw03_KeysNest.j0, if_true]) awake_end
    by_cases c0 : PKeys.rangeErr K m = 0
    · rw [PKeysT.range_ok c0]
      refine Ev.congr (fun k => if_pos rfl) ?_
      by_cases c1 : PKeys.rangeErr K n = 0
      · rw [PKeysT.range_ok c1]
        refine Ev.congr (fun k => if_pos rfl) ?_
        by_cases c2 : m > n
        · exact bad _ _ _ _ _ (decide_eq_true c2)
        · have e : decide (m > n) = false := decide_eq_false c2
          rw [e]
          exact nest_go K m n c0 c1 (by omega)
      · rw [PKeysT.range_err c1]
        refine Ev.congr (fun k => if_neg (by show ¬ ((PKeys.rangeErr K n : Nat) : Int) = 0; omega)) ?_
        exact bad _ _ _ _ _ rfl
    · rw [PKeysT.range_err c0]
      refine Ev.congr (fun k => if_neg (by show ¬ ((PKeys.rangeErr K m : Nat) : Int) = 0; omega)) ?_
      exact bad _ _ _ _ _ rfl
  exact h.rounds
end Go.Proofs.Ytjlpliapofndcaa.Pure
