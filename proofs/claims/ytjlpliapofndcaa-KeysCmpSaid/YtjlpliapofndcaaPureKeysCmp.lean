/- Any two are held against each other part by part: for every input. -/
import Derived.Test.YtjlpliapofndcaaRKeysC
import Derived.Test.YtjlpliapofndcaaPrint20
import Derived.Test.YtjlpliapofndcaaPrint19
import Derived.Test.YtjlpliapofndcaaPrint18
import Derived.Test.YtjlpliapofndcaaPrint18
namespace Go.Proofs.Ytjlpliapofndcaa.Pure
open Go.RowKit Txt Print Go.Proofs.YtjlpliapofndcaaW.PrintWords
theorem ints_ev (a b : Int) : Ev (fun _ : Nat => freshetref03_ints.f a b) (PKeys.cmpI a b) := by
  have : freshetref03_ints.f a b = some (PKeys.cmpI a b) := by
    unfold freshetref03_ints.f PKeys.cmpI
    by_cases h1 : a < b <;> by_cases h2 : b < a <;> simp [h1, h2]
  rw [this]
  exact Ev.now _
theorem texts_ev (a b : ByteArray) : Ev (fun _ : Nat => freshetref03_texts.f a b) (PKeys.cmpT (L a) (L b)) := by
  have : freshetref03_texts.f a b = some (PKeys.cmpT (L a) (L b)) := by
    unfold freshetref03_texts.f PKeys.cmpT
    by_cases h1 : Op.bytesLess (L a) (L b) = true <;> by_cases h2 : Op.bytesLess (L b) (L a) = true <;> simp [h1, h2, L_toList]
  rw [this]
  exact Ev.now _
theorem cmp_j1 (x s0 g0 : Int) (k0 t0 u0 : ByteArray) (s1 g1 : Int) (k1 t1 u1 : ByteArray) : Ev (fun k => freshetref03_Cmp.j1 k x s0 g0 k0 t0 u0 s1 g1 k1 t1 u1) (PKeys.thenC (PKeys.thenC x (PKeys.cmpT (L t0) (L t1))) (PKeys.cmpT (L u0) (L u1))) := by
  by_cases h : x = 0
  · subst h
    have e1 : PKeys.thenC 0 (PKeys.cmpT (L t0) (L t1)) = PKeys.cmpT (L t0) (L t1) := rfl
    rw [e1]
    refine Ev.step (fun k => by simp only [freshetref03_Cmp.j1]; rw [if_pos trivial]) ?_
    refine Ev.bind (texts_ev t0 t1) ?_
    by_cases h2 : PKeys.cmpT (L t0) (L t1) = 0
    · rw [h2]
      have e2 : PKeys.thenC 0 (PKeys.cmpT (L u0) (L u1)) = PKeys.cmpT (L u0) (L u1) := rfl
      rw [e2]
      refine Ev.congr (fun k => if_pos rfl) ?_
      exact Ev.bind (texts_ev u0 u1) (Ev.now _)
    · have e2 : PKeys.thenC (PKeys.cmpT (L t0) (L t1)) (PKeys.cmpT (L u0) (L u1)) = PKeys.cmpT (L t0) (L t1) := if_pos h2
      rw [e2]
      exact Ev.congr (fun k => if_neg h2) (Ev.now _)
  · have e1 : PKeys.thenC x (PKeys.cmpT (L t0) (L t1)) = x := if_pos h
    have e2 : PKeys.thenC x (PKeys.cmpT (L u0) (L u1)) = x := if_pos h
    rw [e1, e2]
    exact Ev.step (f := fun _ => some x) (fun k => by simp only [freshetref03_Cmp.j1]; rw [if_neg h]) (Ev.now _)
theorem cmp_j0 (x s0 g0 : Int) (k0 t0 u0 : ByteArray) (s1 g1 : Int) (k1 t1 u1 : ByteArray) : Ev (fun k => freshetref03_Cmp.j0 k x s0 g0 k0 t0 u0 s1 g1 k1 t1 u1) (PKeys.thenC (PKeys.thenC (PKeys.thenC x (PKeys.cmpT (L k0) (L k1))) (PKeys.cmpT (L t0) (L t1))) (PKeys.cmpT (L u0) (L u1))) := by
  by_cases h : x = 0
  · subst h
    have e1 : PKeys.thenC 0 (PKeys.cmpT (L k0) (L k1)) = PKeys.cmpT (L k0) (L k1) := rfl
    rw [e1]
    refine Ev.step (fun k => by simp only [freshetref03_Cmp.j0]; rw [if_pos trivial]) ?_
    refine Ev.bind (texts_ev k0 k1) ?_
    exact cmp_j1 _ s0 g0 k0 t0 u0 s1 g1 k1 t1 u1
  · have e1 : PKeys.thenC x (PKeys.cmpT (L k0) (L k1)) = x := if_pos h
    rw [e1]
    refine Ev.step (fun k => by simp only [freshetref03_Cmp.j0]; rw [if_neg h]) ?_
    exact cmp_j1 _ s0 g0 k0 t0 u0 s1 g1 k1 t1 u1
theorem ref_cmp (s0 g0 : Int) (k0 t0 u0 : ByteArray) (s1 g1 : Int) (k1 t1 u1 : ByteArray) : Ev (fun k => freshetref03_Cmp.f k s0 g0 k0 t0 u0 s1 g1 k1 t1 u1) (PKeys.cmp (kOf s0 g0 k0 t0 u0) (kOf s1 g1 k1 t1 u1)) := by
  unfold freshetref03_Cmp.f
  refine Ev.bind (ints_ev s0 s1) ?_
  have goal : PKeys.cmp (kOf s0 g0 k0 t0 u0) (kOf s1 g1 k1 t1 u1) = PKeys.thenC (PKeys.thenC (PKeys.thenC (PKeys.thenC (PKeys.cmpI s0 s1) (PKeys.cmpI g0 g1)) (PKeys.cmpT (L k0) (L k1))) (PKeys.cmpT (L t0) (L t1))) (PKeys.cmpT (L u0) (L u1)) := rfl
  rw [goal]
  by_cases h : PKeys.cmpI s0 s1 = 0
  · rw [h]
    have e1 : PKeys.thenC 0 (PKeys.cmpI g0 g1) = PKeys.cmpI g0 g1 := rfl
    rw [e1]
    refine Ev.congr (fun k => if_pos rfl) ?_
    refine Ev.bind (ints_ev g0 g1) ?_
    exact cmp_j0 _ s0 g0 k0 t0 u0 s1 g1 k1 t1 u1
  · have e1 : PKeys.thenC (PKeys.cmpI s0 s1) (PKeys.cmpI g0 g1) = PKeys.cmpI s0 s1 := if_pos h
    rw [e1]
    refine Ev.congr (fun k => if_neg h) ?_
    exact cmp_j0 _ s0 g0 k0 t0 u0 s1 g1 k1 t1 u1
theorem cmp_ev (s0 g0 : Int) (k0 t0 u0 : ByteArray) (s1 g1 : Int) (k1 t1 u1 : ByteArray) : Ev (fun _ : Nat => keys_Cmp.f s0 g0 k0 t0 u0 s1 g1 k1 t1 u1) (PKeys.cmp (kOf s0 g0 k0 t0 u0) (kOf s1 g1 k1 t1 u1)) := by
  rw [keys_cmp]
  exact Ev.now _
theorem KeysCmp (s0 g0 : Int) (k0 t0 u0 : ByteArray) (s1 g1 : Int) (k1 t1 u1 : ByteArray) (_ : (Lit.int .i64 s0).wf = true) (_ : (Lit.int .i64 g0).wf = true) (_ : (Lit.int .i64 s1).wf = true) (_ : (Lit.int .i64 g1).wf = true) :
    ∃ k, freshetlaw03_KeysCmp.f k s0 g0 k0 t0 u0 s1 g1 k1 t1 u1 = some true := by
  have h : Ev (fun k => freshetlaw03_KeysCmp.f k s0 g0 k0 t0 u0 s1 g1 k1 t1 u1) true := by
    unfold freshetlaw03_KeysCmp.f
    refine Ev.bind (cmp_ev s0 g0 k0 t0 u0 s1 g1 k1 t1 u1) ?_
    refine Ev.bind (ref_cmp s0 g0 k0 t0 u0 s1 g1 k1 t1 u1) ?_
    refine Ev.congr (fun k => if_pos rfl) ?_
    refine Ev.bind (cmp_ev s1 g1 k1 t1 u1 s0 g0 k0 t0 u0) ?_
    refine Ev.bind (ref_cmp s1 g1 k1 t1 u1 s0 g0 k0 t0 u0) ?_
    refine Ev.congr (fun k => if_pos rfl) ?_
    exact awake_end
  exact h.rounds
end Go.Proofs.Ytjlpliapofndcaa.Pure
