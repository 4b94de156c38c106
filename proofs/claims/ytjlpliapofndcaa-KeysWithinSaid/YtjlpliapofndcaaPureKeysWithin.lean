/- A state's key stands in the range of another one's first parts just if it has the same ones: for every input. -/
import Derived.Test.YtjlpliapofndcaaRKeysS
import Derived.Test.YtjlpliapofndcaaPrint13
namespace Go.Proofs.Ytjlpliapofndcaa.Pure
open Go.RowKit Txt Print Go.Proofs.YtjlpliapofndcaaW.PrintWords
theorem within_go (s0 g0 : Int) (k0 t0 u0 : ByteArray) (s1 g1 : Int) (k1 t1 u1 : ByteArray) (p : Int) (hA : PKeys.check (kOf s0 g0 k0 t0 u0) = 0) (hB : PKeys.rangeErr (kOf s1 g1 k1 t1 u1) p = 0) :
    Ev (fun k => freshetlaw03_KeysWithin.j0 k p (B (PKeys.enc (kOf s0 g0 k0 t0 u0))) (B (PKeys.first (kOf s1 g1 k1 t1 u1) p.toNat)) (B (PKeys.next (PKeys.first (kOf s1 g1 k1 t1 u1) p.toNat))) false s0 g0 k0 t0 u0 s1 g1 k1 t1 u1) true := by
  obtain ⟨p1, p2, _⟩ := PKeysT.parts_of hB
  have hs := PKeysT.same_iff (PKeysT.range_of_check hA p1 p2) hB
  obtain ⟨q, c, hq, hc⟩ := PKeysT.first_last hB
  have hbi := PKeysT.begins_iff (kOf s0 g0 k0 t0 u0) (kOf s1 g1 k1 t1 u1) (n := p.toNat) (by omega) (by omega)
  have hni := PKeys.next_iff q c hc (PKeys.enc (kOf s0 g0 k0 t0 u0))
  have hlt := PKeysT.lt_self_next q hc
  rw [← PKeys.next_snoc, ← hq] at hni hlt
  rw [hbi] at hni
  have hsame := same_f s0 g0 k0 t0 u0 s1 g1 k1 t1 u1 p
  rw [hs] at hsame
  generalize PKeys.enc (kOf s0 g0 k0 t0 u0) = S at hni ⊢
  generalize kOf s1 g1 k1 t1 u1 = K at hni hlt hsame ⊢
  generalize kOf s0 g0 k0 t0 u0 = J at hni hsame ⊢
  refine Ev.step (f := fun _ => (freshetlaw03_awake.f).bind fun t => some t) (fun k => ?_) awake_end
  simp only [freshetlaw03_KeysWithin.j0, L_toList, hsame, Option.bind_some]
  rw [if_neg (by simp)]
  have hl2 : Op.bytesLess (L (B (PKeys.first K p.toNat))) (L (B (PKeys.next (PKeys.first K p.toNat)))) = true := hlt
  by_cases h1 : Op.bytesLess (L (B S)) (L (B (PKeys.first K p.toNat))) = true
  · have e : ¬ PKeys.first J p.toNat = PKeys.first K p.toNat := fun e => by
      have := (hni.2 e).1
      rw [show PCode.lt S (PKeys.first K p.toNat) = true from h1] at this
      cases this
    rw [if_pos h1, decide_eq_false e, if_pos (by decide), if_pos hl2]
  · have h1' : PCode.lt S (PKeys.first K p.toNat) = false := by simpa using h1
    have e : (Op.bytesLess (L (B S)) (L (B (PKeys.next (PKeys.first K p.toNat)))) == decide (PKeys.first J p.toNat = PKeys.first K p.toNat)) = true := by
      rw [beq_iff_eq, Bool.eq_iff_iff, decide_eq_true_eq]
      exact ⟨fun h => hni.1 ⟨h1', h⟩, fun h => (hni.2 h).2⟩
    rw [if_neg h1, if_pos e, if_pos hl2]
theorem KeysWithin (s0 g0 : Int) (k0 t0 u0 : ByteArray) (s1 g1 : Int) (k1 t1 u1 : ByteArray) (p : Int) (_ : (Lit.int .i64 s0).wf = true) (_ : (Lit.int .i64 g0).wf = true) (_ : (Lit.int .i64 s1).wf = true) (_ : (Lit.int .i64 g1).wf = true) (hp : (Lit.int .i64 p).wf = true) :
    ∃ k, freshetlaw03_KeysWithin.f k s0 g0 k0 t0 u0 s1 g1 k1 t1 u1 p = some true := by
  have h : Ev (fun k => freshetlaw03_KeysWithin.f k s0 g0 k0 t0 u0 s1 g1 k1 t1 u1 p) true := by
    unfold freshetlaw03_KeysWithin.f
    refine Ev.bind (a := (B (PKeys.encode (kOf s0 g0 k0 t0 u0)).1, ((PKeys.encode (kOf s0 g0 k0 t0 u0)).2 : Int))) (by rw [keys_encode]; exact Ev.now _) ?_
    refine Ev.bind (range_ev hp) ?_
    have hgo := within_go s0 g0 k0 t0 u0 s1 g1 k1 t1 u1 p
    generalize kOf s0 g0 k0 t0 u0 = J at hgo ⊢
    generalize kOf s1 g1 k1 t1 u1 = K at hgo ⊢
    have bad : ∀ a b c : ByteArray, ∀ f : Bool, f = true → Ev (fun k => freshetlaw03_KeysWithin.j0 k p a b c f s0 g0 k0 t0 u0 s1 g1 k1 t1 u1) true := by
      intro a b c f hf
      subst hf
      exact Ev.step (f := fun _ => (freshetlaw03_awake.f).bind fun t => some t) (fun k => by simp only [freshetlaw03_KeysWithin.j0, if_true]) awake_end
    by_cases c0 : PKeys.check J = 0
    · have f0 : PKeys.encode J = (PKeys.enc J, 0) := if_neg (by simpa using c0)
      rw [f0]
      refine Ev.congr (fun k => if_pos rfl) ?_
      by_cases c1 : PKeys.rangeErr K p = 0
      · rw [PKeysT.range_ok c1]
        exact hgo c0 c1
      · rw [PKeysT.range_err c1]
        exact bad _ _ _ _ (by show (((PKeys.rangeErr K p : Nat) : Int) != 0) = true; simpa using c1)
    · have f0 : PKeys.encode J = ([], PKeys.check J) := if_pos c0
      rw [f0]
      refine Ev.congr (fun k => if_neg (by show ¬ ((PKeys.check J : Nat) : Int) = 0; omega)) ?_
      exact bad _ _ _ _ rfl
  exact h.rounds
end Go.Proofs.Ytjlpliapofndcaa.Pure
