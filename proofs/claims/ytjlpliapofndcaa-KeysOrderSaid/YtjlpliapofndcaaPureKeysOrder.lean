/- State's keys are held in an order: for every input. -/
import Derived.Test.YtjlpliapofndcaaRKeysC
import Derived.Test.YtjlpliapofndcaaPrint22
namespace Go.Proofs.Ytjlpliapofndcaa.Pure
open Go.RowKit Txt Print Go.Proofs.YtjlpliapofndcaaW.PrintWords
section
variable {α : Type} {c : α → α → Int} (C : PKeys.Cmp c) {a b d : α}
include C
theorem le_le (h1 : c a b ≤ 0) (h2 : c b d ≤ 0) : c a d ≤ 0 := by
  by_cases e1 : c a b = 0
  · rw [(C.zero a b).1 e1]; exact h2
  by_cases e2 : c b d = 0
  · rw [← (C.zero b d).1 e2]; exact h1
  have := C.trans a b d (by omega) (by omega)
  omega
theorem lt_le (h1 : c a b < 0) (h2 : c b d ≤ 0) : c a d < 0 := by
  by_cases e2 : c b d = 0
  · rw [← (C.zero b d).1 e2]; exact h1
  exact C.trans a b d h1 (by omega)
theorem le_lt (h1 : c a b ≤ 0) (h2 : c b d < 0) : c a d < 0 := by
  by_cases e1 : c a b = 0
  · rw [(C.zero a b).1 e1]; exact h2
  exact C.trans a b d (by omega) h2
end
theorem cmpv (s0 g0 : Int) (k0 t0 u0 : ByteArray) (s1 g1 : Int) (k1 t1 u1 : ByteArray) : Ev (fun _ : Nat => keys_Cmp.f s0 g0 k0 t0 u0 s1 g1 k1 t1 u1) (PKeys.cmp (kOf s0 g0 k0 t0 u0) (kOf s1 g1 k1 t1 u1)) := by
  rw [keys_cmp]
  exact Ev.now _
theorem order_j1 (s0 g0 : Int) (k0 t0 u0 : ByteArray) (b : Bool) (hb : b = false) : Ev (fun k => freshetlaw03_KeysOrder.j1 k b s0 g0 k0 t0 u0) true := by
  subst hb
  refine Ev.step (fun k => by simp only [freshetlaw03_KeysOrder.j1]; rw [if_neg (by simp)]) ?_
  refine Ev.bind (cmpv s0 g0 k0 t0 u0 s0 g0 k0 t0 u0) ?_
  refine Ev.congr (fun k => if_pos ((PKeys.cmp_cmp.zero _ _).2 rfl)) ?_
  exact awake_end
theorem order_j0 (s0 g0 : Int) (k0 t0 u0 : ByteArray) (x y z : Int) (h1 : x ≤ 0 → y ≤ 0 → z ≤ 0) (h2 : x < 0 → y ≤ 0 → z < 0) (h3 : x ≤ 0 → y < 0 → z < 0) (b : Bool) (hb : b = false) : Ev (fun k => freshetlaw03_KeysOrder.j0 k x y z b s0 g0 k0 t0 u0) true := by
  subst hb
  refine Ev.step (fun k => by simp only [freshetlaw03_KeysOrder.j0]; rw [if_neg (by simp)]) ?_
  by_cases a1 : x ≤ 0
  · refine Ev.congr (fun k => if_pos a1) ?_
    by_cases a2 : y ≤ 0
    · refine Ev.congr (fun k => if_pos a2) ?_
      have z1 := h1 a1 a2
      refine Ev.congr (fun k => if_neg (by omega)) ?_
      by_cases a3 : x < 0
      · refine Ev.congr (fun k => if_pos a3) ?_
        have z2 := h2 a3 a2
        refine Ev.congr (fun k => if_neg (by omega)) ?_
        by_cases a4 : y < 0
        · refine Ev.congr (fun k => if_pos a4) ?_
          exact order_j1 s0 g0 k0 t0 u0 _ (decide_eq_false (by omega))
        · refine Ev.congr (fun k => if_neg a4) ?_
          exact order_j1 s0 g0 k0 t0 u0 _ rfl
      · refine Ev.congr (fun k => if_neg a3) ?_
        by_cases a4 : y < 0
        · refine Ev.congr (fun k => if_pos a4) ?_
          have z3 := h3 a1 a4
          exact order_j1 s0 g0 k0 t0 u0 _ (decide_eq_false (by omega))
        · refine Ev.congr (fun k => if_neg a4) ?_
          exact order_j1 s0 g0 k0 t0 u0 _ rfl
    · refine Ev.congr (fun k => if_neg a2) ?_
      by_cases a3 : x < 0
      · refine Ev.congr (fun k => if_pos a3) ?_
        refine Ev.congr (fun k => if_neg (by omega)) ?_
        exact order_j1 s0 g0 k0 t0 u0 _ rfl
      · refine Ev.congr (fun k => if_neg a3) ?_
        refine Ev.congr (fun k => if_neg (by omega)) ?_
        exact order_j1 s0 g0 k0 t0 u0 _ rfl
  · refine Ev.congr (fun k => if_neg a1) ?_
    refine Ev.congr (fun k => if_neg (by omega)) ?_
    exact order_j1 s0 g0 k0 t0 u0 _ rfl
theorem KeysOrder (s0 g0 : Int) (k0 t0 u0 : ByteArray) (s1 g1 : Int) (k1 t1 u1 : ByteArray) (s2 g2 : Int) (k2 t2 u2 : ByteArray) (_ : (Lit.int .i64 s0).wf = true) (_ : (Lit.int .i64 g0).wf = true) (_ : (Lit.int .i64 s1).wf = true) (_ : (Lit.int .i64 g1).wf = true) (_ : (Lit.int .i64 s2).wf = true) (_ : (Lit.int .i64 g2).wf = true) :
    ∃ k, freshetlaw03_KeysOrder.f k s0 g0 k0 t0 u0 s1 g1 k1 t1 u1 s2 g2 k2 t2 u2 = some true := by
  have C := PKeys.cmp_cmp
  have n := C.neg (kOf s0 g0 k0 t0 u0) (kOf s1 g1 k1 t1 u1)
  have l := C.lo (kOf s0 g0 k0 t0 u0) (kOf s1 g1 k1 t1 u1)
  have z := C.zero (kOf s0 g0 k0 t0 u0) (kOf s1 g1 k1 t1 u1)
  have h : Ev (fun k => freshetlaw03_KeysOrder.f k s0 g0 k0 t0 u0 s1 g1 k1 t1 u1 s2 g2 k2 t2 u2) true := by
    unfold freshetlaw03_KeysOrder.f
    refine Ev.bind (cmpv s0 g0 k0 t0 u0 s1 g1 k1 t1 u1) ?_
    refine Ev.bind (cmpv s1 g1 k1 t1 u1 s2 g2 k2 t2 u2) ?_
    refine Ev.bind (cmpv s0 g0 k0 t0 u0 s2 g2 k2 t2 u2) ?_
    refine Ev.bind (cmpv s1 g1 k1 t1 u1 s0 g0 k0 t0 u0) ?_
    refine Ev.congr (fun k => if_pos (by rw [wrap_id (by omega) (by omega)]; exact n)) ?_
    refine Ev.congr (fun k => if_neg (by omega)) ?_
    refine Ev.congr (fun k => if_neg (by omega)) ?_
    refine order_j0 s0 g0 k0 t0 u0 _ _ _ (le_le C) (lt_le C) (le_lt C) _ ?_
    rw [kOf_eq] at z
    simp only [L_toList, bne_eq_false_iff_eq]
    rw [Bool.eq_iff_iff]
    simp only [beq_iff_eq, Bool.and_eq_true]
    exact z
  exact h.rounds
end Go.Proofs.Ytjlpliapofndcaa.Pure
