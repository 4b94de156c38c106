/- Of two ranges of as many parts nothing is in both, unless they are the same: for every input. -/
import Derived.Test.YtjlpliapofndcaaRKeysS
import Derived.Test.YtjlpliapofndcaaPrint15
namespace Go.Proofs.Ytjlpliapofndcaa.Pure
open Go.RowKit Txt Print Go.Proofs.YtjlpliapofndcaaW.PrintWords
theorem apart_of {J K : PKeys.K} {p : Int} (hJ : PKeys.rangeErr J p = 0) (hK : PKeys.rangeErr K p = 0) (hne : PKeys.first J p.toNat ≠ PKeys.first K p.toNat) (h : Op.bytesLess (PKeys.first J p.toNat) (PKeys.first K p.toNat) = true) :
    Op.bytesLess (PKeys.first K p.toNat) (PKeys.next (PKeys.first J p.toNat)) = false := by
  obtain ⟨p1, p2, _⟩ := PKeysT.parts_of hJ
  obtain ⟨q, c, hq, hc⟩ := PKeysT.first_last hJ
  obtain ⟨q', c', hq', _⟩ := PKeysT.first_last hK
  have hn : ¬ ∃ x, q' ++ [c'] = q ++ [c] ++ x := by
    rintro ⟨x, hx⟩
    rw [← hq, ← hq'] at hx
    exact hne (PKeysT.first_free (by omega) (by omega) hx).symm
  rw [hq, hq'] at h
  rw [hq, hq', PKeys.next_snoc]
  exact PKeys.ranges_apart hc h hn
theorem apart_go (s0 g0 : Int) (k0 t0 u0 : ByteArray) (s1 g1 : Int) (k1 t1 u1 : ByteArray) (p : Int) (hJ : PKeys.rangeErr (kOf s0 g0 k0 t0 u0) p = 0) (hK : PKeys.rangeErr (kOf s1 g1 k1 t1 u1) p = 0) :
    Ev (fun k => freshetlaw03_KeysApart.j0 k p (B (PKeys.first (kOf s0 g0 k0 t0 u0) p.toNat)) (B (PKeys.next (PKeys.first (kOf s0 g0 k0 t0 u0) p.toNat))) (B (PKeys.first (kOf s1 g1 k1 t1 u1) p.toNat)) (B (PKeys.next (PKeys.first (kOf s1 g1 k1 t1 u1) p.toNat))) false s0 g0 k0 t0 u0 s1 g1 k1 t1 u1) true := by
  have hs := PKeysT.same_iff hJ hK
  have hap := apart_of hJ hK
  have hap2 := apart_of hK hJ
  have hsame := same_f s0 g0 k0 t0 u0 s1 g1 k1 t1 u1 p
  generalize kOf s0 g0 k0 t0 u0 = J at hs hap hap2 hsame ⊢
  generalize kOf s1 g1 k1 t1 u1 = K at hs hap hap2 hsame ⊢
  rw [hs] at hsame
  refine Ev.step (f := fun _ => (freshetlaw03_awake.f).bind fun t => some t) (fun k => ?_) awake_end
  simp only [freshetlaw03_KeysApart.j0, L_toList, hsame, Option.bind_some]
  rw [if_neg (by simp)]
  by_cases e : PKeys.first J p.toNat = PKeys.first K p.toNat
  · rw [if_pos (show L (B (PKeys.first J p.toNat)) = L (B (PKeys.first K p.toNat)) from e), e, if_pos rfl, if_pos (by simp)]
  · have d : decide (PKeys.first J p.toNat = PKeys.first K p.toNat) = false := decide_eq_false e
    rw [if_neg (show ¬ L (B (PKeys.first J p.toNat)) = L (B (PKeys.first K p.toNat)) from e), d]
    by_cases h1 : Op.bytesLess (PKeys.first K p.toNat) (PKeys.next (PKeys.first J p.toNat)) = true
    · have h2 : ¬ Op.bytesLess (PKeys.first J p.toNat) (PKeys.next (PKeys.first K p.toNat)) = true := by
        cases hl : Op.bytesLess (PKeys.first J p.toNat) (PKeys.first K p.toNat) with
        | true => rw [hap e hl] at h1; cases h1
        | false =>
          rcases less_or hl with h3 | h3
          · rw [hap2 (fun x => e x.symm) h3]; simp
          · exact absurd h3.symm e
      rw [if_pos h1, if_neg h2, if_neg (by simp)]
    · rw [if_neg h1, if_neg (by simp)]
theorem KeysApart (s0 g0 : Int) (k0 t0 u0 : ByteArray) (s1 g1 : Int) (k1 t1 u1 : ByteArray) (p : Int) (_ : (Lit.int .i64 s0).wf = true) (_ : (Lit.int .i64 g0).wf = true) (_ : (Lit.int .i64 s1).wf = true) (_ : (Lit.int .i64 g1).wf = true) (hp : (Lit.int .i64 p).wf = true) :
    ∃ k, freshetlaw03_KeysApart.f k s0 g0 k0 t0 u0 s1 g1 k1 t1 u1 p = some true := by
  have h : Ev (fun k => freshetlaw03_KeysApart.f k s0 g0 k0 t0 u0 s1 g1 k1 t1 u1 p) true := by
    unfold freshetlaw03_KeysApart.f
    refine Ev.bind (range_ev hp) ?_
    refine Ev.bind (range_ev hp) ?_
    have hgo := apart_go s0 g0 k0 t0 u0 s1 g1 k1 t1 u1 p
    generalize kOf s0 g0 k0 t0 u0 = J at hgo ⊢
    generalize kOf s1 g1 k1 t1 u1 = K at hgo ⊢
    have bad : ∀ a b c d : ByteArray, ∀ f : Bool, f = true → Ev (fun k => freshetlaw03_KeysApart.j0 k p a b c d f s0 g0 k0 t0 u0 s1 g1 k1 t1 u1) true := by
      intro a b c d f hf
      subst hf
      exact Ev.step (f := fun _ => (freshetlaw03_awake.f).bind fun t => some t) (fun k => by simp only [freshetlaw03_KeysApart.j0, if_true]) awake_end
    by_cases c0 : PKeys.rangeErr J p = 0
    · rw [PKeysT.range_ok c0]
      refine Ev.congr (fun k => if_pos rfl) ?_
      by_cases c1 : PKeys.rangeErr K p = 0
      · rw [PKeysT.range_ok c1]
        exact hgo c0 c1
      · rw [PKeysT.range_err c1]
        exact bad _ _ _ _ _ (by show (((PKeys.rangeErr K p : Nat) : Int) != 0) = true; simpa using c1)
    · rw [PKeysT.range_err c0]
      refine Ev.congr (fun k => if_neg (by show ¬ ((PKeys.rangeErr J p : Nat) : Int) = 0; omega)) ?_
      exact bad _ _ _ _ _ rfl
  exact h.rounds
end Go.Proofs.Ytjlpliapofndcaa.Pure
