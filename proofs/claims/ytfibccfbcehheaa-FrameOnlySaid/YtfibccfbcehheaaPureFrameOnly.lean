/- Bytes that are got are what is put of their payload: for every input. -/
import Derived.Test.YtfibccfbcehheaaRFrameR
import Derived.Test.YtfibccfbcehheaaPrint7
namespace Go.Proofs.Ytfibccfbcehheaa.Pure
open Go.RowKit Txt Print Go.Proofs.YtfibccfbcehheaaW.PrintWords
theorem FrameOnly : freshetlaw04_FrameOnly.Pure := by
  intro a0 hs
  have h : Ev (fun k => freshetlaw04_FrameOnly.f k a0) true := by
    unfold freshetlaw04_FrameOnly.f
    refine Ev.bind (frame_get a0 (by omega)) ?_
    have hl := L_length a0
    have herr := PFrame.get_err (L a0)
    have hok : ∀ p n, PFrame.get (L a0) = (p, n, 0) → _ := fun p n h => PFrame.get_ok h
    generalize PFrame.get (L a0) = r at herr hok
    obtain ⟨p, n, x⟩ := r
    by_cases hx : x = 0
    · subst hx
      obtain ⟨e2, e1, h5, hn, hp, hlen⟩ := hok p n rfl
      refine Ev.congr (fun k => if_pos rfl) ?_
      refine Ev.bind (frame_put (B p) (by rw [size_B]; omega)) ?_
      have eq : PFrame.put (L (B p)) = ((L a0).take n, 0) := Prod.ext e1 e2
      rw [eq]
      refine Ev.congr (fun k => if_pos (by show ((n : Nat) : Int) ≥ 5; omega)) ?_
      refine Ev.congr (fun k => if_pos (by show ((n : Nat) : Int) ≤ (a0.size : Int); omega)) ?_
      refine Ev.congr (fun k => if_pos (by show 0 ≤ ((n : Nat) : Int); omega)) ?_
      refine Ev.congr (fun k => if_pos (by rw [L_toList, L_toList, L_take]; rfl)) ?_
      refine Ev.congr (fun k => if_pos rfl) ?_
      refine Ev.bind (frame_size _) ?_
      refine Ev.congr (fun k => if_pos ?_) ?_
      · have ez : (PFrame.put p).1.length = (PCode.putUint p.length).length + p.length + 4 := by
          rw [PFrame.put_ok hp, List.length_append, PFrame.seal_length, PCode.putField, List.length_append]
        show sizeZ ((B p).size : Int) = ((n : Nat) : Int)
        unfold sizeZ
        rw [size_B, if_pos (by omega), Int.toNat_natCast]
        omega
      · exact Ev.bind awake04 (Ev.now _)
    · refine Ev.congr (fun k => if_neg (fun e => hx (Int.ofNat_eq_zero.1 e))) ?_
      rcases herr with h0 | ⟨h1, h2⟩
      · exact absurd h0 hx
      · simp only at h1 h2
        subst h1 h2
        refine Ev.congr (fun k => if_pos (by rw [L_toList])) ?_
        refine Ev.congr (fun k => if_pos rfl) ?_
        exact Ev.bind awake04 (Ev.now _)
  exact h.rounds
end Go.Proofs.Ytfibccfbcehheaa.Pure
