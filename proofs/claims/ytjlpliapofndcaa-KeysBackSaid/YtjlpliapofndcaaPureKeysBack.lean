/- A state's key that is written is read back, and two stand as their texts do: for every input. -/
import Derived.Test.YtjlpliapofndcaaRKeysC
import Derived.Test.YtjlpliapofndcaaPrint21
namespace Go.Proofs.Ytjlpliapofndcaa.Pure
open Go.RowKit Txt Print Go.Proofs.YtjlpliapofndcaaW.PrintWords
theorem enc_small {k : PKeys.K} (h : PKeys.check k = 0) : (PKeys.enc k).length ≤ 1000 := by
  obtain ⟨h1, h2, h3, h4, h5, h6, h7⟩ := PKeys.check_ok h
  unfold PKeys.enc
  rw [PCode.putText_enc, PCode.putText_enc]
  have a := encT_take_le k.key
  have b := encT_take_le k.space
  simp only [List.length_cons, List.length_append, List.length_nil]
  omega
theorem enc_inj {a b : PKeys.K} (ha : PKeys.check a = 0) (hb : PKeys.check b = 0) : PKeys.enc a = PKeys.enc b ↔ a = b := ⟨fun h => by
  have h1 := PKeys.decode_enc ha
  rw [h, PKeys.decode_enc hb] at h1
  exact (Prod.mk.inj h1).1.symm, fun h => by rw [h]⟩
theorem KeysBack (s0 g0 : Int) (k0 t0 u0 : ByteArray) (s1 g1 : Int) (k1 t1 u1 : ByteArray) (_ : (Lit.int .i64 s0).wf = true) (_ : (Lit.int .i64 g0).wf = true) (_ : (Lit.int .i64 s1).wf = true) (_ : (Lit.int .i64 g1).wf = true) :
    ∃ k, freshetlaw03_KeysBack.f k s0 g0 k0 t0 u0 s1 g1 k1 t1 u1 = some true := by
  have h : Ev (fun k => freshetlaw03_KeysBack.f k s0 g0 k0 t0 u0 s1 g1 k1 t1 u1) true := by
    unfold freshetlaw03_KeysBack.f
    obtain ⟨K0, hK0⟩ : ∃ K, kOf s0 g0 k0 t0 u0 = K := ⟨_, rfl⟩
    obtain ⟨K1, hK1⟩ : ∃ K, kOf s1 g1 k1 t1 u1 = K := ⟨_, rfl⟩
    refine Ev.bind (a := (B (PKeys.encode K0).1, ((PKeys.encode K0).2 : Int))) (by rw [keys_encode, hK0]; exact Ev.now _) ?_
    refine Ev.bind (a := (B (PKeys.encode K1).1, ((PKeys.encode K1).2 : Int))) (by rw [keys_encode, hK1]; exact Ev.now _) ?_
    have bad : ∀ x y : Int, (x = 0 ∨ PKeys.encode K0 = ([], PKeys.check K0)) → (y = 0 ∨ PKeys.encode K1 = ([], PKeys.check K1)) → ∀ b : Bool, b = true → Ev (fun k => freshetlaw03_KeysBack.j0 k (B (PKeys.encode K0).1) x (B (PKeys.encode K1).1) y b s0 g0 k0 t0 u0 s1 g1 k1 t1 u1) true := by
      intro x y hx hy b hb
      subst hb
      have e0 : ¬ x = 0 → (B (PKeys.encode K0).1).toList = [] := fun hn => by rw [hx.resolve_left hn]; exact (L_toList _).trans rfl
      have e1 : ¬ y = 0 → (B (PKeys.encode K1).1).toList = [] := fun hn => by rw [hy.resolve_left hn]; exact (L_toList _).trans rfl
      refine Ev.step (f := fun _ => (freshetlaw03_awake.f).bind fun t => some t) (fun k => ?_) awake_end
      simp only [freshetlaw03_KeysBack.j0, if_true]
      by_cases c0 : x = 0
      · rw [if_pos c0]
        by_cases c1 : y = 0
        · rw [if_pos c1]
        · rw [if_neg c1, if_pos (e1 c1)]
      · rw [if_neg c0, if_pos (e0 c0)]
        by_cases c1 : y = 0
        · rw [if_pos c1]
        · rw [if_neg c1, if_pos (e1 c1)]
    have z0 : PKeys.check K0 ≠ 0 → PKeys.encode K0 = ([], PKeys.check K0) := fun hn => if_pos hn
    have z1 : PKeys.check K1 ≠ 0 → PKeys.encode K1 = ([], PKeys.check K1) := fun hn => if_pos hn
    by_cases c0 : PKeys.check K0 = 0
    · have f0 : PKeys.encode K0 = (PKeys.enc K0, 0) := if_neg (by simpa using c0)
      by_cases c1 : PKeys.check K1 = 0
      · have f1 : PKeys.encode K1 = (PKeys.enc K1, 0) := if_neg (by simpa using c1)
        rw [f0, f1]
        refine Ev.congr (fun k => if_pos rfl) ?_
        have d0 := keys_decode_ev (B (PKeys.enc K0)) (by rw [size_B]; have := enc_small c0; omega)
        have d1 := keys_decode_ev (B (PKeys.enc K1)) (by rw [size_B]; have := enc_small c1; omega)
        rw [show L (B (PKeys.enc K0)) = PKeys.enc K0 from rfl, PKeys.decode_enc c0] at d0
        rw [show L (B (PKeys.enc K1)) = PKeys.enc K1 from rfl, PKeys.decode_enc c1] at d1
        have hj : Ev (fun k => freshetlaw03_KeysBack.j1 k (B (PKeys.enc K0)) (B (PKeys.enc K1)) false s0 g0 k0 t0 u0 s1 g1 k1 t1 u1) true := by
          refine Ev.step (fun k => by simp only [freshetlaw03_KeysBack.j1]; rw [if_neg (by simp)]) ?_
          refine Ev.bind (a := PKeys.cmp K0 K1) (by rw [keys_cmp, hK0, hK1]; exact Ev.now _) ?_
          have q1 : Op.bytesLess (PKeys.enc K0) (PKeys.enc K1) = decide (PKeys.cmp K0 K1 < 0) := PKeys.lt_enc c0 c1
          have q2 : Op.bytesLess (PKeys.enc K1) (PKeys.enc K0) = decide (PKeys.cmp K0 K1 > 0) := by
            have := PKeys.lt_enc c1 c0
            rw [show Op.bytesLess (PKeys.enc K1) (PKeys.enc K0) = decide (PKeys.cmp K1 K0 < 0) from this]
            have n := PKeys.cmp_cmp.neg K0 K1
            exact decide_eq_decide.2 (by omega)
          have q3 : (PKeys.enc K0 == PKeys.enc K1) = (PKeys.cmp K0 K1 == 0) := by
            rw [Bool.eq_iff_iff, beq_iff_eq, beq_iff_eq, PKeys.cmp_cmp.zero, enc_inj c0 c1]
          refine Ev.congr (fun k => if_pos (by rw [L_toList, L_toList]; show (decide (PKeys.cmp K0 K1 < 0) == Op.bytesLess (PKeys.enc K0) (PKeys.enc K1)) = true; rw [q1]; simp)) ?_
          refine Ev.congr (fun k => if_pos (by rw [L_toList, L_toList]; show ((PKeys.cmp K0 K1 == 0) == (PKeys.enc K0 == PKeys.enc K1)) = true; rw [q3]; simp)) ?_
          refine Ev.congr (fun k => if_pos (by rw [L_toList, L_toList]; show (decide (PKeys.cmp K0 K1 > 0) == Op.bytesLess (PKeys.enc K1) (PKeys.enc K0)) = true; rw [q2]; simp)) ?_
          exact awake_end
        subst hK0
        subst hK1
        refine Ev.step (fun k => by simp only [freshetlaw03_KeysBack.j0]; exact if_neg (by simp)) ?_
        refine Ev.bind d0 ?_
        refine Ev.bind d1 ?_
        refine Ev.congr (fun k => if_neg (by simp [K6, kOf, L_toList])) ?_
        refine Ev.congr (fun k => if_neg (by simp [K6, kOf, L_toList])) ?_
        refine Ev.congr (fun k => if_pos rfl) ?_
        exact hj
      · have n1 := z1 c1
        refine Ev.congr (fun k => if_pos (by rw [f0]; rfl)) ?_
        exact bad _ _ (.inl (by rw [f0]; rfl)) (.inr n1) _ (by rw [n1]; simpa using c1)
    · have n0 := z0 c0
      refine Ev.congr (fun k => if_neg (by rw [n0]; simpa using c0)) ?_
      by_cases c1 : PKeys.check K1 = 0
      · have f1 : PKeys.encode K1 = (PKeys.enc K1, 0) := if_neg (by simpa using c1)
        exact bad _ _ (.inr n0) (.inl (by rw [f1]; rfl)) _ rfl
      · exact bad _ _ (.inr n0) (.inr (z1 c1)) _ rfl
  exact h.rounds
end Go.Proofs.Ytjlpliapofndcaa.Pure
