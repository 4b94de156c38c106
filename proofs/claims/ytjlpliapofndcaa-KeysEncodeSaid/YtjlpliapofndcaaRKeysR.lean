/- Keys: the reference's Check and Encode, as printed, is the plain one. -/
import Derived.Test.YtjlpliapofndcaaRKeys
import Derived.Test.YtjlpliapofndcaaPrint2
import Derived.Test.YtjlpliapofndcaaPrint3
namespace Go.Proofs.Ytjlpliapofndcaa.Print
open Go.RowKit Txt Go.Proofs.YtjlpliapofndcaaW.PrintWords
theorem ref_check (st gr : Int) (ky sp sb : ByteArray) : Ev (fun k => freshetref03_Check.f k st gr ky sp sb) ((PKeys.check (kOf st gr ky sp sb) : Nat) : Int) := by
  refine ⟨1, fun k hk => ?_⟩
  obtain ⟨k, rfl⟩ : ∃ j, k = j + 1 := ⟨k - 1, by omega⟩
  simp only [freshetref03_Check.f, freshetref03_Check.j0]
  rw [check_of]
  by_cases h1 : st < 0 ∨ 64 ≤ st ∨ gr < 0 ∨ 64 ≤ gr
  · rw [if_pos h1]
    by_cases a1 : st < 0
    · simp [a1]
    by_cases a2 : st > 63
    · simp [a1, a2]
    by_cases a3 : gr < 0
    · simp [a1, a2, a3]
    have a4 : gr > 63 := by omega
    simp [a1, a2, a3, a4]
  · rw [if_neg h1]
    have a1 : ¬ st < 0 := by omega
    have a2 : ¬ st > 63 := by omega
    have a3 : ¬ gr < 0 := by omega
    have a4 : ¬ gr > 63 := by omega
    rw [if_neg a1, if_neg a2, if_neg a3, decide_eq_false a4, if_neg (by simp)]
    by_cases h2 : 64 < ky.size ∨ 64 < sp.size ∨ 64 < sb.size
    · rw [if_pos h2]
      by_cases b1 : (ky.size : Int) > 64
      · rw [if_pos b1]; rfl
      by_cases b2 : (sp.size : Int) > 64
      · rw [if_neg b1, if_pos b2]; rfl
      rw [if_neg b1, if_neg b2, if_pos (by omega)]; rfl
    · rw [if_neg h2, if_neg (by omega), if_neg (by omega), if_neg (by omega)]; rfl
theorem ref_encode (st gr : Int) (ky sp sb : ByteArray) : Ev (fun k => freshetref03_Encode.f k st gr ky sp sb) (B (PKeys.encode (kOf st gr ky sp sb)).1, ((PKeys.encode (kOf st gr ky sp sb)).2 : Int)) := by
  unfold freshetref03_Encode.f PKeys.encode
  refine Ev.bind (ref_check st gr ky sp sb) ?_
  by_cases h : PKeys.check (kOf st gr ky sp sb) = 0
  · rw [if_neg (by simpa using h)]
    refine Ev.congr (fun k => if_pos (by omega)) ?_
    obtain ⟨h1, h2, h3, h4, h5, h6, h7⟩ := PKeys.check_ok h
    have q5 : ky.size ≤ 64 := by have : (L ky).length ≤ 64 := h5; rw [L_length] at this; exact this
    have q6 : sp.size ≤ 64 := by have : (L sp).length ≤ 64 := h6; rw [L_length] at this; exact this
    have q7 : sb.size ≤ 64 := by have : (L sb).length ≤ 64 := h7; rw [L_length] at this; exact this
    have z1 := Keys.pt_size q5
    have z2 := Keys.pt_size q6
    have z0 : (strOfNums [st % 256, gr % 256]).size = 2 := by rw [strOfNums_size]; rfl
    refine Ev.bind (a := [st % 256, gr % 256]) (Ev.now _) ?_
    refine Ev.bind (ref_putText ky (by omega)) ?_
    refine Ev.congr (fun k => if_pos (by show (strOfNums [st % 256, gr % 256]).size + (Keys.pt ky).size ≤ _; omega)) ?_
    refine Ev.bind (ref_putText sp (by omega)) ?_
    refine Ev.congr (fun k => if_pos (by show (strOfNums [st % 256, gr % 256] ++ Keys.pt ky).size + (Keys.pt sp).size ≤ _; rw [ByteArray.size_append]; omega)) ?_
    refine Ev.congr (fun k => if_pos (by show (strOfNums [st % 256, gr % 256] ++ Keys.pt ky ++ Keys.pt sp).size + sb.size ≤ _; rw [ByteArray.size_append, ByteArray.size_append]; omega)) ?_
    have e : B (PKeys.enc (kOf st gr ky sp sb)) = Keys.headOf st gr ky sp ++ sb := by rw [← L_head, B_L]
    rw [e]
    exact Ev.now _
  · rw [if_pos h]
    exact Ev.congr (fun k => if_neg (by omega)) (Ev.now _)
end Go.Proofs.Ytjlpliapofndcaa.Print
