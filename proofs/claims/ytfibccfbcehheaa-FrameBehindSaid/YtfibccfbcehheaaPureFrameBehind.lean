/- Of whole frames with any bytes behind them those frames are told first, then those of the bytes: for every input. -/
import Derived.Test.YtfibccfbcehheaaRFrames
import Derived.Test.YtfibccfbcehheaaFCut
import Derived.Test.YtfibccfbcehheaaPrint10
namespace Go.Proofs.Ytfibccfbcehheaa.Pure
open Go.RowKit Txt Print Go.Proofs.YtfibccfbcehheaaW.PrintWords
theorem behind_go (s t : ByteArray) (hs : s.size ≤ 2000) (ht : t.size ≤ 2000) : Ev (fun k => freshetlaw04_FrameBehind.j0 k s t false) true := by
  have n1 := all_length s
  have n2 := all_length t
  have hle := PFrame.all_le (L s).length (L s) (Nat.le_refl _)
  rw [L_length] at hle
  have hb := FSeq.all_behind (L t) (L s).length (L s) (Nat.le_refl _)
  have hx : L (s.extract 0 (PFrame.all (L s)).2.1 ++ t) = (L s).take (PFrame.all (L s)).2.1 ++ L t := by rw [L_append, L_take]
  have hz : (s.extract 0 (PFrame.all (L s)).2.1 ++ t).size ≤ 1000000 := by rw [ByteArray.size_append, ByteArray.size_extract]; omega
  have h3 := frame_all_ev (s.extract 0 (PFrame.all (L s)).2.1 ++ t) hz
  rw [hx, hb] at h3
  have hl := PFrame.all_le (L t).length (L t) (Nat.le_refl _)
  rw [L_length] at hl
  refine Ev.step (fun k => by simp only [freshetlaw04_FrameBehind.j0]; exact if_neg (by simp)) ?_
  refine Ev.bind (frame_all_ev s (by omega)) ?_
  refine Ev.bind (frame_all_ev t (by omega)) ?_
  refine Ev.congr (fun k => if_pos (by show (0 : Int) ≤ ((PFrame.all (L s)).2.1 : Int); omega)) ?_
  refine Ev.congr (fun k => if_pos (by show ((PFrame.all (L s)).2.1 : Int) ≤ _; omega)) ?_
  refine Ev.congr (fun k => if_pos (by show (s.extract 0 ((PFrame.all (L s)).2.1 : Int).toNat).size + _ ≤ _; rw [ByteArray.size_extract]; omega)) ?_
  have e0 : s.extract 0 ((PFrame.all (L s)).2.1 : Int).toNat = s.extract 0 (PFrame.all (L s)).2.1 := by rw [Int.toNat_natCast]
  refine Ev.bind (a := ZL ((PFrame.all (L s)).1 ++ (PFrame.all (L t)).1, (PFrame.all (L s)).2.1 + (PFrame.all (L t)).2.1, (PFrame.all (L t)).2.2)) (by show Ev (fun _ => frame_All.f (s.extract 0 ((PFrame.all (L s)).2.1 : Int).toNat ++ t)) _; rw [e0]; exact h3) ?_
  refine Ev.bind (a := ([] : List ByteArray)) (Ev.now _) ?_
  refine Ev.congr (fun k => if_pos (by show 0 + ((PFrame.all (L s)).1.map B).length < _; rw [List.length_map]; omega)) ?_
  refine Ev.bind (a := ([] : List ByteArray) ++ (PFrame.all (L s)).1.map B) (Ev.now _) ?_
  refine Ev.congr (fun k => if_pos (by show (([] : List ByteArray) ++ (PFrame.all (L s)).1.map B).length + ((PFrame.all (L t)).1.map B).length < _; rw [List.nil_append, List.length_map, List.length_map]; omega)) ?_
  have hq : ((PFrame.all (L s)).1 ++ (PFrame.all (L t)).1).map B = ([] : List ByteArray) ++ (PFrame.all (L s)).1.map B ++ (PFrame.all (L t)).1.map B := by rw [List.map_append, List.nil_append]
  have h1 := ref_same (((PFrame.all (L s)).1 ++ (PFrame.all (L t)).1).map B) (([] : List ByteArray) ++ (PFrame.all (L s)).1.map B ++ (PFrame.all (L t)).1.map B) (by rw [List.length_map, List.length_append]; omega)
  rw [decide_eq_true hq] at h1
  refine Ev.bind h1 ?_
  refine Ev.congr (fun k => if_pos rfl) ?_
  refine Ev.congr (fun k => if_pos (by show (((PFrame.all (L s)).2.1 + (PFrame.all (L t)).2.1 : Nat) : Int) = wrap64 (((PFrame.all (L s)).2.1 : Int) + ((PFrame.all (L t)).2.1 : Int)); rw [wrap_id (by omega) (by omega)]; omega)) ?_
  refine Ev.congr (fun k => if_pos rfl) ?_
  exact Ev.bind awake04 (Ev.now _)
theorem behind_awake (s t : ByteArray) : Ev (fun k => freshetlaw04_FrameBehind.j0 k s t true) true := by
  refine Ev.step (fun k => by simp only [freshetlaw04_FrameBehind.j0, if_true]; rfl) ?_
  exact Ev.bind awake04 (Ev.now _)
theorem FrameBehind : freshetlaw04_FrameBehind.Pure := by
  intro a0 a1 h0 h1
  have h : Ev (fun k => freshetlaw04_FrameBehind.f k a0 a1) true := by
    unfold freshetlaw04_FrameBehind.f
    by_cases c0 : (a0.size : Int) > 2000
    · exact Ev.congr (fun k => if_pos c0) (behind_awake a0 a1)
    · refine Ev.congr (fun k => if_neg c0) ?_
      by_cases c1 : (a1.size : Int) > 2000
      · rw [decide_eq_true c1]
        exact behind_awake a0 a1
      · rw [decide_eq_false c1]
        exact behind_go a0 a1 (by omega) (by omega)
  exact h.rounds
end Go.Proofs.Ytfibccfbcehheaa.Pure
