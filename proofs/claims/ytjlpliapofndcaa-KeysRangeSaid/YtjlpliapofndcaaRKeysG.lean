/- Keys: the reference's Range, as printed, is the plain one. -/
import Derived.Test.YtjlpliapofndcaaRKeys
import Derived.Test.YtjlpliapofndcaaPrint11
namespace Go.Proofs.Ytjlpliapofndcaa.Print
open Go.RowKit Txt Go.Proofs.YtjlpliapofndcaaW.PrintWords
theorem rl0 {F : ByteArray} (hF : Keys.Fine F) : Ev (fun k => freshetref03_Range.j4 k F) (F, Keys.nx F, 0) := by
  obtain ⟨n, hn, hb, hl⟩ := hF
  have w1 : wrap64 ((F.size : Int) - 1) = (n : Int) := by rw [wrap_id (by omega) (by omega)]; omega
  have hbt : bt F (n : Int) = (((L F).getD n 0).toNat : Int) := by rw [bt_getD, Int.toNat_natCast]
  refine Ev.step (f := fun k => freshetref03_Range.l0 k F (n : Int)) (fun k => by simp only [freshetref03_Range.j4]; rw [w1]) ?_
  have hx : F.extract 0 n ++ strOfNums [(bt F (n : Int) + 1) % 256] = Keys.nx F := by
    apply L_inj
    rw [L_append, L_take, L_nums, hbt]
    show _ = PKeys.next (L F)
    rw [Keys.nx_list hn]
    have : UInt8.ofNat (((((L F).getD n 0).toNat : Int) + 1) % 256).toNat = (L F).getD n 0 + 1 := by
      apply UInt8.toNat_inj.1
      rw [UInt8.toNat_add, UInt8.toNat_ofNat']
      have h1 : (1 : UInt8).toNat = 1 := rfl
      have h2 : ((L F).getD n 0).toNat < 255 := hl
      rw [h1]
      omega
    simp only [List.map_cons, List.map_nil, this]
    try rfl
  refine Ev.step (f := fun _ => some (F, F.extract 0 n ++ strOfNums [(bt F (n : Int) + 1) % 256], (0 : Int))) (fun k => ?_) (by rw [hx]; exact Ev.now _)
  simp only [freshetref03_Range.l0]
  have h255 : ¬ bt F (n : Int) = 255 := by rw [hbt]; have h2 : ((L F).getD n 0).toNat < 255 := hl; omega
  rw [if_pos (by omega), if_pos (by omega), if_neg h255, if_pos (by omega)]
  show (if (F.extract 0 ((n : Int)).toNat).size + (strOfNums [(bt F (n : Int) + 1) % 256]).size ≤ 9223372036854775807 then _ else _) = _
  rw [Int.toNat_natCast, if_pos (by rw [ByteArray.size_extract, strOfNums_size]; simp only [List.length_cons, List.length_nil]; omega)]
theorem rj3 {p st gr : Int} {ky sp sb F : ByteArray} (h3 : 3 < p → sp.size ≤ 64) (hz : F.size ≤ 800) (hF : ¬ 3 < p → Keys.Fine F) :
    Ev (fun k => freshetref03_Range.j3 k p F st gr ky sp sb) ((if 3 < p then F ++ Keys.pt sp else F), Keys.nx (if 3 < p then F ++ Keys.pt sp else F), 0) := by
  by_cases c : 3 < p
  · have q := h3 c
    have z := Keys.pt_size q
    rw [if_pos c]
    refine Ev.step (fun k => by simp only [freshetref03_Range.j3]; rw [if_pos c]) ?_
    refine Ev.bind (ref_putText sp (by omega)) ?_
    refine Ev.congr (fun k => if_pos (by show F.size + (Keys.pt sp).size ≤ _; omega)) ?_
    exact rl0 (F := F ++ Keys.pt sp) (Keys.fine_pt hz q)
  · rw [if_neg c]
    refine Ev.step (fun k => by simp only [freshetref03_Range.j3]; rw [if_neg c]) ?_
    exact rl0 (hF c)
theorem rj2 {p st gr : Int} {ky sp sb F : ByteArray} (h2 : 2 < p → ky.size ≤ 64) (h3 : 3 < p → sp.size ≤ 64) (hz : F.size ≤ 600) (hF : ¬ 2 < p → Keys.Fine F) :
    Ev (fun k => freshetref03_Range.j2 k p F st gr ky sp sb) ((if 3 < p then (if 2 < p then F ++ Keys.pt ky else F) ++ Keys.pt sp else (if 2 < p then F ++ Keys.pt ky else F)), Keys.nx (if 3 < p then (if 2 < p then F ++ Keys.pt ky else F) ++ Keys.pt sp else (if 2 < p then F ++ Keys.pt ky else F)), 0) := by
  by_cases c : 2 < p
  · have q := h2 c
    have z := Keys.pt_size q
    rw [if_pos c]
    refine Ev.step (fun k => by simp only [freshetref03_Range.j2]; rw [if_pos c]) ?_
    refine Ev.bind (ref_putText ky (by omega)) ?_
    refine Ev.congr (fun k => if_pos (by show F.size + (Keys.pt ky).size ≤ _; omega)) ?_
    exact rj3 (F := F ++ Keys.pt ky) h3 (by rw [ByteArray.size_append]; omega) (fun _ => Keys.fine_pt (by omega) q)
  · rw [if_neg c]
    refine Ev.step (fun k => by simp only [freshetref03_Range.j2]; rw [if_neg c]) ?_
    exact rj3 h3 (by omega) (fun _ => hF c)
theorem ref_range (st gr : Int) (ky sp sb : ByteArray) (p : Int) : Ev (fun k => freshetref03_Range.f k st gr ky sp sb p) (rangeOf st gr ky sp p) := by
  unfold rangeOf
  have bad : ∀ (b : Bool), b = true → Ev (fun k => freshetref03_Range.j0 k p b st gr ky sp sb) ((⟨#[]⟩ : ByteArray), (⟨#[]⟩ : ByteArray), (2 : Int)) := fun b hb => by
    subst hb
    refine Ev.step (fun k => by simp only [freshetref03_Range.j0, if_true]) (Ev.now _)
  unfold freshetref03_Range.f
  by_cases h1 : p < 1 ∨ 4 < p ∨ st < 0 ∨ 64 ≤ st ∨ (1 < p ∧ (gr < 0 ∨ 64 ≤ gr))
  · rw [if_pos h1]
    by_cases a1 : p < 1
    · exact Ev.congr (fun k => if_pos a1) (bad _ rfl)
    refine Ev.congr (fun k => if_neg a1) ?_
    by_cases a2 : p > 4
    · exact Ev.congr (fun k => if_pos a2) (bad _ rfl)
    refine Ev.congr (fun k => if_neg a2) ?_
    by_cases a3 : st < 0
    · exact Ev.congr (fun k => if_pos a3) (bad _ rfl)
    refine Ev.congr (fun k => if_neg a3) ?_
    by_cases a4 : st > 63
    · exact Ev.congr (fun k => if_pos a4) (bad _ rfl)
    refine Ev.congr (fun k => if_neg a4) ?_
    have a5 : p > 1 := by omega
    refine Ev.congr (fun k => if_pos a5) ?_
    by_cases a6 : gr < 0
    · exact Ev.congr (fun k => if_pos a6) (bad _ rfl)
    refine Ev.congr (fun k => if_neg a6) ?_
    exact bad _ (decide_eq_true (by omega))
  · rw [if_neg h1]
    have b1 : ¬ p < 1 := by omega
    have b2 : ¬ p > 4 := by omega
    have b3 : ¬ st < 0 := by omega
    have b4 : ¬ st > 63 := by omega
    have hst : st % 256 = st := by omega
    have go1 : ∀ b : Bool, b = false → (2 < p → ky.size ≤ 64) → (3 < p → sp.size ≤ 64) → Ev (fun k => freshetref03_Range.j1 k p b st gr ky sp sb) (fromOf st gr ky sp p, Keys.nx (fromOf st gr ky sp p), 0) := by
      rintro b rfl g2 g3
      refine Ev.step (fun k => by simp only [freshetref03_Range.j1]; rw [if_neg (by simp)]) ?_
      refine Ev.bind (a := [st % 256]) (Ev.now _) ?_
      rw [hst]
      by_cases c1 : p > 1
      · have hgr : gr % 256 = gr := by omega
        refine Ev.congr (fun k => if_pos c1) ?_
        refine Ev.bind (a := [gr % 256]) (Ev.now _) ?_
        rw [hgr]
        refine Ev.congr (fun k => if_pos (by show (strOfNums [st]).size + (strOfNums [gr]).size ≤ _; rw [strOfNums_size, strOfNums_size]; simp)) ?_
        have h := rj2 (p := p) (st := st) (gr := gr) (ky := ky) (sp := sp) (sb := sb) (F := strOfNums [st] ++ strOfNums [gr]) g2 g3 (by rw [ByteArray.size_append, strOfNums_size, strOfNums_size]; simp) (fun _ => Keys.fine_two (by rw [strOfNums_size]; simp) (by omega) (by omega))
        have e : (if 3 < p then (if 2 < p then strOfNums [st] ++ strOfNums [gr] ++ Keys.pt ky else strOfNums [st] ++ strOfNums [gr]) ++ Keys.pt sp else (if 2 < p then strOfNums [st] ++ strOfNums [gr] ++ Keys.pt ky else strOfNums [st] ++ strOfNums [gr])) = fromOf st gr ky sp p := by
          rcases (show p = 2 ∨ p = 3 ∨ p = 4 by omega) with rfl | rfl | rfl <;> simp [fromOf]
        rw [e] at h
        exact h
      · refine Ev.congr (fun k => if_neg c1) ?_
        have h := rj2 (p := p) (st := st) (gr := gr) (ky := ky) (sp := sp) (sb := sb) (F := strOfNums [st]) g2 g3 (by rw [strOfNums_size]; simp) (fun _ => Keys.fine_one (by omega) (by omega))
        have e : (if 3 < p then (if 2 < p then strOfNums [st] ++ Keys.pt ky else strOfNums [st]) ++ Keys.pt sp else (if 2 < p then strOfNums [st] ++ Keys.pt ky else strOfNums [st])) = fromOf st gr ky sp p := by
          obtain rfl : p = 1 := by omega
          simp [fromOf]
        rw [e] at h
        exact h
    have long : ∀ b : Bool, b = true → Ev (fun k => freshetref03_Range.j1 k p b st gr ky sp sb) ((⟨#[]⟩ : ByteArray), (⟨#[]⟩ : ByteArray), (3 : Int)) := fun b hb => by
      subst hb
      refine Ev.step (fun k => by simp only [freshetref03_Range.j1, if_true]) (Ev.now _)
    have go0 : ∀ b : Bool, b = false → Ev (fun k => freshetref03_Range.j0 k p b st gr ky sp sb) (if (2 < p ∧ 64 < ky.size) ∨ (3 < p ∧ 64 < sp.size) then ((⟨#[]⟩ : ByteArray), (⟨#[]⟩ : ByteArray), (3 : Int)) else (fromOf st gr ky sp p, Keys.nx (fromOf st gr ky sp p), 0)) := by
      rintro b rfl
      refine Ev.step (fun k => by simp only [freshetref03_Range.j0]; rw [if_neg (by simp)]) ?_
      by_cases d2 : p > 2
      · refine Ev.congr (fun k => if_pos d2) ?_
        by_cases e2 : (ky.size : Int) > 64
        · refine Ev.congr (fun k => if_pos e2) ?_
          rw [show (if (2 < p ∧ 64 < ky.size) ∨ (3 < p ∧ 64 < sp.size) then ((⟨#[]⟩ : ByteArray), (⟨#[]⟩ : ByteArray), (3 : Int)) else (fromOf st gr ky sp p, Keys.nx (fromOf st gr ky sp p), 0)) = ((⟨#[]⟩ : ByteArray), (⟨#[]⟩ : ByteArray), (3 : Int)) from if_pos (by omega)]
          exact long _ rfl
        refine Ev.congr (fun k => if_neg e2) ?_
        by_cases d3 : p > 3
        · refine Ev.congr (fun k => if_pos d3) ?_
          by_cases e3 : (sp.size : Int) > 64
          · rw [show (if (2 < p ∧ 64 < ky.size) ∨ (3 < p ∧ 64 < sp.size) then ((⟨#[]⟩ : ByteArray), (⟨#[]⟩ : ByteArray), (3 : Int)) else (fromOf st gr ky sp p, Keys.nx (fromOf st gr ky sp p), 0)) = ((⟨#[]⟩ : ByteArray), (⟨#[]⟩ : ByteArray), (3 : Int)) from if_pos (by omega)]
            exact long _ (decide_eq_true e3)
          · rw [show (if (2 < p ∧ 64 < ky.size) ∨ (3 < p ∧ 64 < sp.size) then ((⟨#[]⟩ : ByteArray), (⟨#[]⟩ : ByteArray), (3 : Int)) else (fromOf st gr ky sp p, Keys.nx (fromOf st gr ky sp p), 0)) = (fromOf st gr ky sp p, Keys.nx (fromOf st gr ky sp p), 0) from if_neg (by omega)]
            exact go1 _ (decide_eq_false e3) (fun _ => by omega) (fun _ => by omega)
        · refine Ev.congr (fun k => if_neg d3) ?_
          rw [show (if (2 < p ∧ 64 < ky.size) ∨ (3 < p ∧ 64 < sp.size) then ((⟨#[]⟩ : ByteArray), (⟨#[]⟩ : ByteArray), (3 : Int)) else (fromOf st gr ky sp p, Keys.nx (fromOf st gr ky sp p), 0)) = (fromOf st gr ky sp p, Keys.nx (fromOf st gr ky sp p), 0) from if_neg (by omega)]
          exact go1 _ rfl (fun _ => by omega) (fun _ => by omega)
      · refine Ev.congr (fun k => if_neg d2) ?_
        refine Ev.congr (fun k => if_neg (by omega)) ?_
        rw [show (if (2 < p ∧ 64 < ky.size) ∨ (3 < p ∧ 64 < sp.size) then ((⟨#[]⟩ : ByteArray), (⟨#[]⟩ : ByteArray), (3 : Int)) else (fromOf st gr ky sp p, Keys.nx (fromOf st gr ky sp p), 0)) = (fromOf st gr ky sp p, Keys.nx (fromOf st gr ky sp p), 0) from if_neg (by omega)]
        exact go1 _ rfl (fun _ => by omega) (fun _ => by omega)
    refine Ev.congr (fun k => if_neg b1) ?_
    refine Ev.congr (fun k => if_neg b2) ?_
    refine Ev.congr (fun k => if_neg b3) ?_
    refine Ev.congr (fun k => if_neg b4) ?_
    by_cases c1 : p > 1
    · refine Ev.congr (fun k => if_pos c1) ?_
      refine Ev.congr (fun k => if_neg (by omega)) ?_
      exact go0 _ (decide_eq_false (by omega))
    · refine Ev.congr (fun k => if_neg c1) ?_
      exact go0 _ rfl
end Go.Proofs.Ytjlpliapofndcaa.Print
