/- Frames one behind the other: the reference, as printed, is the plain one. -/
import Derived.Test.YtfibccfbcehheaaRFrameR
import Derived.Test.YtfibccfbcehheaaFSeq
import Derived.Test.YtfibccfbcehheaaGFrame
import Derived.Test.YtfibccfbcehheaaPrint7
import Derived.Test.YtfibccfbcehheaaPrint8
namespace Go.Proofs.Ytfibccfbcehheaa.Print
open Go.RowKit Txt Go.Proofs.YtfibccfbcehheaaW.PrintWords
/-- texts and two numbers -/
abbrev ZL (r : List (List UInt8) × Nat × Nat) : List ByteArray × Int × Int := (r.1.map B, (r.2.1 : Int), (r.2.2 : Int))
abbrev PB (pre : List (List UInt8 × Nat)) : List ByteArray := pre.map fun x => B x.1
theorem ref_all_l (s : ByteArray) (hs : s.size ≤ 1000000) (d : Nat) : ∀ pre : List (List UInt8 × Nat), FSeq.Part (L s) pre → s.size - FSeq.endOf 0 pre ≤ d →
    Ev (fun k => freshetref04_All.l0 k s (PB pre) (FSeq.endOf 0 pre : Int)) (ZL (PFrame.all (L s))) := by
  have hL := L_length s
  have hend : ∀ pre, FSeq.Part (L s) pre → FSeq.endOf 0 pre = s.size → Ev (fun k => freshetref04_All.l0 k s (PB pre) (FSeq.endOf 0 pre : Int)) (ZL (PFrame.all (L s))) := by
    intro pre hP he
    have hf := hP.full (by rw [hL]; exact he)
    refine Ev.step (f := fun _ => some (PB pre, (FSeq.endOf 0 pre : Int), 0)) (fun k => ?_) ?_
    · simp only [freshetref04_All.l0]
      rw [if_neg (by omega)]
    · have ha := FSeq.all_of (L s)
      rw [← hf, hL, if_neg (by omega)] at ha
      rw [ha]
      have e : ZL (pre.map (·.1), FSeq.endOf 0 pre, 0) = (PB pre, (FSeq.endOf 0 pre : Int), 0) := by
        unfold ZL PB
        rw [List.map_map]
        rfl
      rw [e]
      exact Ev.now _
  induction d with
  | zero =>
    intro pre hP hd
    have hle := hP.le
    exact hend pre hP (by omega)
  | succ d ih =>
    intro pre hP hd
    have hle := hP.le
    by_cases hlt : FSeq.endOf 0 pre < s.size
    · have hx : L (s.extract (FSeq.endOf 0 pre) s.size) = (L s).drop (FSeq.endOf 0 pre) := L_drop s _
      have hg := ref_get (s.extract (FSeq.endOf 0 pre) s.size) (by rw [ByteArray.size_extract]; omega)
      rw [hx] at hg
      have hshort := hP.short
      rw [hL] at hshort
      have hpl : (PB pre).length = pre.length := List.length_map ..
      have hstep : ∀ k, freshetref04_All.l0 (k + 1) s (PB pre) (FSeq.endOf 0 pre : Int) = (freshetref04_Get.f k (s.extract (FSeq.endOf 0 pre) s.size)).bind fun bt => (if bt.2.2 = 0 then (if (PB pre).length < 8796093022208 then (freshetref04_All.l0 k s ((PB pre) ++ [bt.1]) (wrap64 ((FSeq.endOf 0 pre : Int) + bt.2.1))) else (none)) else (some (PB pre, (FSeq.endOf 0 pre : Int), bt.2.2))) := by
        intro k
        simp only [freshetref04_All.l0]
        rw [if_pos (by omega), if_pos (by omega), if_pos (by omega), Int.toNat_natCast]
      refine Ev.step hstep ?_
      refine Ev.bind hg ?_
      by_cases he : (PFrame.get ((L s).drop (FSeq.endOf 0 pre))).2.2 = 0
      · have hz := PFrame.get_size_pos he
        rw [List.length_drop, hL] at hz
        have hn := hP.snoc he
        have h1 := ih _ hn (by rw [FSeq.endOf_snoc]; show s.size - (FSeq.endOf 0 pre + _) ≤ d; omega)
        rw [FSeq.endOf_snoc] at h1
        refine Ev.congr (fun k => ?_) h1
        rw [if_pos (by show ((PFrame.get ((L s).drop (FSeq.endOf 0 pre))).2.2 : Int) = 0; omega), if_pos (by omega)]
        have e1 : PB pre ++ [B (PFrame.get ((L s).drop (FSeq.endOf 0 pre))).1] = PB (pre ++ [((PFrame.get ((L s).drop (FSeq.endOf 0 pre))).1, FSeq.endOf 0 pre + (PFrame.get ((L s).drop (FSeq.endOf 0 pre))).2.1)]) := by
          unfold PB
          rw [List.map_append]
          rfl
        have e2 : wrap64 ((FSeq.endOf 0 pre : Int) + ((PFrame.get ((L s).drop (FSeq.endOf 0 pre))).2.1 : Int)) = ((FSeq.endOf 0 pre + (PFrame.get ((L s).drop (FSeq.endOf 0 pre))).2.1 : Nat) : Int) := by
          rw [wrap_id (by omega) (by omega)]
          omega
        show freshetref04_All.l0 k s (PB pre ++ [B (PFrame.get ((L s).drop (FSeq.endOf 0 pre))).1]) (wrap64 ((FSeq.endOf 0 pre : Int) + ((PFrame.get ((L s).drop (FSeq.endOf 0 pre))).2.1 : Int))) = _
        rw [e1, e2]
      · have hf := hP.stop he
        refine Ev.congr (fun k => if_neg (by show ¬ ((PFrame.get ((L s).drop (FSeq.endOf 0 pre))).2.2 : Int) = 0; omega)) ?_
        have ha := FSeq.all_of (L s)
        rw [← hf, hL, if_pos hlt] at ha
        rw [ha]
        have e : ZL (pre.map (·.1), FSeq.endOf 0 pre, (PFrame.get ((L s).drop (FSeq.endOf 0 pre))).2.2) = (PB pre, (FSeq.endOf 0 pre : Int), ((PFrame.get ((L s).drop (FSeq.endOf 0 pre))).2.2 : Int)) := by
          unfold ZL PB
          rw [List.map_map]
          rfl
        rw [e]
        exact Ev.now _
    · exact hend pre hP (by omega)
theorem ref_all (s : ByteArray) (hs : s.size ≤ 1000000) : Ev (fun k => freshetref04_All.f k s) (ZL (PFrame.all (L s))) := ref_all_l s hs _ [] (FSeq.Part.nil _) (Nat.le_refl _)
theorem frame_all (s : ByteArray) (hs : s.size ≤ 1000000) : frame_All.f s = some (ZL (PFrame.all (L s))) := if_pos hs
theorem frame_all_ev (s : ByteArray) (hs : s.size ≤ 1000000) : Ev (fun _ => frame_All.f s) (ZL (PFrame.all (L s))) := by
  rw [frame_all s hs]
  exact Ev.now _
theorem ref_same_l (l m : List ByteArray) (h : l.length = m.length) (hl : l.length ≤ 4611686018427387904) (d : Nat) : ∀ i : Nat, i + d = l.length → Ev (fun k => freshetref04_Same.l0 k l m (i : Int)) (decide (l.drop i = m.drop i)) := by
  induction d with
  | zero =>
    intro i hi
    refine Ev.step (f := fun _ => some true) (fun k => ?_) ?_
    · simp only [freshetref04_Same.l0]
      rw [if_neg (by omega)]
    · rw [List.drop_of_length_le (by omega), List.drop_of_length_le (by omega), decide_eq_true rfl]
      exact Ev.now _
  | succ d ih =>
    intro i hi
    have h1 : i < l.length := by omega
    have h2 : i < m.length := by omega
    have e1 : rdOf ByteArray.empty l (i : Int) = l[i] := by unfold rdOf; rw [Int.toNat_natCast, List.getD_eq_getElem?_getD, List.getElem?_eq_getElem h1]; rfl
    have e2 : rdOf ByteArray.empty m (i : Int) = m[i] := by unfold rdOf; rw [Int.toNat_natCast, List.getD_eq_getElem?_getD, List.getElem?_eq_getElem h2]; rfl
    have hstep : ∀ k, freshetref04_Same.l0 (k + 1) l m (i : Int) = if L l[i] = L m[i] then freshetref04_Same.l0 k l m ((i + 1 : Nat) : Int) else some false := by
      intro k
      simp only [freshetref04_Same.l0]
      rw [if_pos (by omega), if_pos (by omega), if_pos (by omega), e1, e2, L_toList, L_toList, wrap_id (by omega) (by omega)]
      rfl
    refine Ev.step hstep ?_
    rw [List.drop_eq_getElem_cons h1, List.drop_eq_getElem_cons h2]
    by_cases he : L l[i] = L m[i]
    · refine Ev.congr (fun k => if_pos he) ?_
      have hq := L_inj he
      have h3 : (l[i] :: l.drop (i + 1) = m[i] :: m.drop (i + 1)) ↔ (l.drop (i + 1) = m.drop (i + 1)) := ⟨fun e => (List.cons.inj e).2, fun e => by rw [hq, e]⟩
      rw [decide_eq_decide.2 h3]
      exact ih (i + 1) (by omega)
    · refine Ev.congr (fun k => if_neg he) ?_
      rw [decide_eq_false (by intro e; injection e with e _; exact he (congrArg L e))]
      exact Ev.now _
theorem ref_same (l m : List ByteArray) (hl : l.length ≤ 4611686018427387904) : Ev (fun k => freshetref04_Same.f k l m) (decide (l = m)) := by
  unfold freshetref04_Same.f
  by_cases h : l.length = m.length
  · refine Ev.congr (fun k => if_pos (by omega)) ?_
    exact ref_same_l l m h hl l.length 0 (by omega)
  · refine Ev.congr (fun k => if_neg (by omega)) ?_
    rw [decide_eq_false (fun e => h (congrArg List.length e))]
    exact Ev.now _
theorem all_length (s : ByteArray) : 5 * (PFrame.all (L s)).1.length ≤ s.size := by
  rw [FSeq.all_of]
  have := FSeq.steps_length (L s).length (L s) 0 (Nat.le_refl _)
  rw [L_length] at this
  simpa using this
end Go.Proofs.Ytfibccfbcehheaa.Print
