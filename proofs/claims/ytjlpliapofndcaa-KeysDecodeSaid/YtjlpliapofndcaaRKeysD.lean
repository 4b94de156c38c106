/- Keys: the reference's Decode, as printed, is the plain one. -/
import Derived.Test.YtjlpliapofndcaaRKeys
import Derived.Test.YtjlpliapofndcaaPrint2
import Derived.Test.YtjlpliapofndcaaPrint9
namespace Go.Proofs.Ytjlpliapofndcaa.Print
open Go.RowKit Txt Go.Proofs.YtjlpliapofndcaaW.PrintWords
theorem ref_checkD (st gr : Int) (ky sp sb : ByteArray) : Ev (fun k => freshetref03_Check.f k st gr ky sp sb) ((PKeys.check (kOf st gr ky sp sb) : Nat) : Int) := by
  refine ⟨1, fun k hk => ?_⟩
  obtain ⟨k, rfl⟩ : ∃ j, k = j + 1 := ⟨k - 1, by omega⟩
  simp only [freshetref03_Check.f, freshetref03_Check.j0]
  rw [check_of]
  by_cases h1 : st < 0 ∨ 64 ≤ st ∨ gr < 0 ∨ 64 ≤ gr
  · rw [if_pos h1]
    by_cases a1 : st < 0
    · simp [a1]
    by_cases a2 : st > 63
    · simp [a1, a2]
    by_cases a3 : gr < 0
    · simp [a1, a2, a3]
    have a4 : gr > 63 := by omega
    simp [a1, a2, a3, a4]
  · rw [if_neg h1]
    have a1 : ¬ st < 0 := by omega
    have a2 : ¬ st > 63 := by omega
    have a3 : ¬ gr < 0 := by omega
    have a4 : ¬ gr > 63 := by omega
    rw [if_neg a1, if_neg a2, if_neg a3, decide_eq_false a4, if_neg (by simp)]
    by_cases h2 : 64 < ky.size ∨ 64 < sp.size ∨ 64 < sb.size
    · rw [if_pos h2]
      by_cases b1 : (ky.size : Int) > 64
      · rw [if_pos b1]; rfl
      by_cases b2 : (sp.size : Int) > 64
      · rw [if_neg b1, if_pos b2]; rfl
      rw [if_neg b1, if_neg b2, if_pos (by omega)]; rfl
    · rw [if_neg h2, if_neg (by omega), if_neg (by omega), if_neg (by omega)]; rfl
theorem ref_decode (s : ByteArray) (hs : s.size ≤ 140737488355326) : Ev (fun k => freshetref03_Decode.f k s) (K6 (PKeys.decode (L s))) := by
  obtain ⟨r1, h1⟩ : ∃ r, PCode.text ((L s).drop 2) = r := ⟨_, rfl⟩
  obtain ⟨r2, h2⟩ : ∃ r, PCode.text ((L s).drop (2 + r1.2.1)) = r := ⟨_, rfl⟩
  rw [decode_is h1 h2]
  have hd := decoded_is h1 h2
  have l1 := text_le ((L s).drop 2)
  have l2 := text_le ((L s).drop (2 + r1.2.1))
  rw [h1, List.length_drop, L_length] at l1
  rw [h2, List.length_drop, L_length] at l2
  unfold freshetref03_Decode.f
  by_cases h : s.size < 2
  · rw [show (if s.size < 2 ∨ r1.2.2 ≠ 0 ∨ r2.2.2 ≠ 0 ∨ PKeys.check (PKeys.decoded (L s)) ≠ 0 then (PKeys.none_, 7) else (PKeys.decoded (L s), 0)) = (PKeys.none_, 7) from if_pos (Or.inl h)]
    exact Ev.congr (fun k => if_pos (by omega)) (Ev.now _)
  · have e1 : L (s.extract 2 s.size) = (L s).drop 2 := L_drop s 2
    have W1 := Lib.hid (show wrap64 (2 + (r1.2.1 : Int)) = ((2 + r1.2.1 : Nat) : Int) from wrapN 2 r1.2.1 (by omega))
    have e2 : L (s.extract (2 + r1.2.1) s.size) = (L s).drop (2 + r1.2.1) := L_drop s _
    have W2 := Lib.hid (wrapN (2 + r1.2.1) r2.2.1 (by omega))
    have t1 := ref_text (s.extract 2 s.size) (by rw [ByteArray.size_extract]; omega)
    rw [e1, h1] at t1
    have t2 := ref_text (s.extract (2 + r1.2.1) s.size) (by rw [ByteArray.size_extract]; omega)
    rw [e2, h2] at t2
    refine Ev.congr (fun k => if_neg (by omega)) ?_
    refine Ev.congr (fun k => if_pos (by omega)) ?_
    refine Ev.bind t1 ?_
    by_cases c1 : r1.2.2 = 0
    · refine Ev.congr (fun k => if_pos (by show (r1.2.2 : Int) = 0; omega)) ?_
      have b1 : (0 : Int) ≤ ((2 + r1.2.1 : Nat) : Int) := by omega
      have b2 : ((2 + r1.2.1 : Nat) : Int) ≤ (s.size : Int) := by omega
      have b3 : (0 : Int) ≤ ((2 + r1.2.1 + r2.2.1 : Nat) : Int) := by omega
      have b4 : ((2 + r1.2.1 + r2.2.1 : Nat) : Int) ≤ (s.size : Int) := by omega
      refine Ev.congr (fun k => if_pos (by show 0 ≤ wrap64 (2 + (r1.2.1 : Int)); rw [W1.out]; exact b1)) ?_
      refine Ev.congr (fun k => if_pos (by show wrap64 (2 + (r1.2.1 : Int)) ≤ _; rw [W1.out]; exact b2)) ?_
      refine Ev.bind (a := ZT r2) (by show Ev (fun k => freshetref02_Text.f k (s.extract (wrap64 (2 + (r1.2.1 : Int))).toNat s.size)) _; rw [W1.out, Int.toNat_natCast]; exact t2) ?_
      by_cases c2 : r2.2.2 = 0
      · refine Ev.congr (fun k => if_pos (by show (r2.2.2 : Int) = 0; omega)) ?_
        refine Ev.congr (fun k => if_pos (by omega)) ?_
        refine Ev.congr (fun k => if_pos (by omega)) ?_
        refine Ev.congr (fun k => if_pos (by show 0 ≤ wrap64 (wrap64 (2 + (r1.2.1 : Int)) + (r2.2.1 : Int)); rw [W1.out, W2.out]; exact b3)) ?_
        refine Ev.congr (fun k => if_pos (by show wrap64 (wrap64 (2 + (r1.2.1 : Int)) + (r2.2.1 : Int)) ≤ _; rw [W1.out, W2.out]; exact b4)) ?_
        have e3 : s.extract (wrap64 (wrap64 (2 + (r1.2.1 : Int)) + (r2.2.1 : Int))).toNat s.size = s.extract (2 + r1.2.1 + r2.2.1) s.size := by rw [W1.out, W2.out, Int.toNat_natCast]
        have hc := ref_checkD (wrap64 (bt s 0)) (wrap64 (bt s 1)) (B r1.1) (B r2.1) (s.extract (2 + r1.2.1 + r2.2.1) s.size)
        rw [hd] at hc
        refine Ev.bind (a := ((PKeys.check (PKeys.decoded (L s)) : Nat) : Int)) (by show Ev (fun k => freshetref03_Check.f k (wrap64 (bt s 0)) (wrap64 (bt s 1)) (B r1.1) (B r2.1) (s.extract (wrap64 (wrap64 (2 + (r1.2.1 : Int)) + (r2.2.1 : Int))).toNat s.size)) _; rw [e3]; exact hc) ?_
        by_cases c3 : PKeys.check (PKeys.decoded (L s)) = 0
        · rw [show (if s.size < 2 ∨ r1.2.2 ≠ 0 ∨ r2.2.2 ≠ 0 ∨ PKeys.check (PKeys.decoded (L s)) ≠ 0 then (PKeys.none_, 7) else (PKeys.decoded (L s), 0)) = (PKeys.decoded (L s), 0) from if_neg (by omega)]
          refine Ev.congr (fun k => if_pos (by omega)) ?_
          refine Ev.congr (f := fun _ => some (K6 (kOf (wrap64 (bt s 0)) (wrap64 (bt s 1)) (B r1.1) (B r2.1) (s.extract (2 + r1.2.1 + r2.2.1) s.size), 0))) (fun k => ?_) (by rw [hd]; exact Ev.now _)
          show some (wrap64 (bt s 0), wrap64 (bt s 1), B r1.1, B r2.1, s.extract (wrap64 (wrap64 (2 + (r1.2.1 : Int)) + (r2.2.1 : Int))).toNat s.size, (0 : Int)) = _
          rw [e3]
          rfl
        · rw [show (if s.size < 2 ∨ r1.2.2 ≠ 0 ∨ r2.2.2 ≠ 0 ∨ PKeys.check (PKeys.decoded (L s)) ≠ 0 then (PKeys.none_, 7) else (PKeys.decoded (L s), 0)) = (PKeys.none_, 7) from if_pos (by omega)]
          exact Ev.congr (fun k => if_neg (by omega)) (Ev.now _)
      · rw [show (if s.size < 2 ∨ r1.2.2 ≠ 0 ∨ r2.2.2 ≠ 0 ∨ PKeys.check (PKeys.decoded (L s)) ≠ 0 then (PKeys.none_, 7) else (PKeys.decoded (L s), 0)) = (PKeys.none_, 7) from if_pos (by omega)]
        exact Ev.congr (fun k => if_neg (by show ¬ (r2.2.2 : Int) = 0; omega)) (Ev.now _)
    · rw [show (if s.size < 2 ∨ r1.2.2 ≠ 0 ∨ r2.2.2 ≠ 0 ∨ PKeys.check (PKeys.decoded (L s)) ≠ 0 then (PKeys.none_, 7) else (PKeys.decoded (L s), 0)) = (PKeys.none_, 7) from if_pos (by omega)]
      exact Ev.congr (fun k => if_neg (by show ¬ (r1.2.2 : Int) = 0; omega)) (Ev.now _)
end Go.Proofs.Ytjlpliapofndcaa.Print
