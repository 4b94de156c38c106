/- The contract of frame.All in the form in which the printed callers ask it. -/
import Derived.Test.YtfibccfbcehheaaFAll
namespace Go.Proofs.Ytfibccfbcehheaa.Print
open Go.RowKit Txt Go.Proofs.YtfibccfbcehheaaW.PrintWords
def frame_All.f (a0 : ByteArray) : Option (List ByteArray × Int × Int) :=
  if a0.size ≤ 1000000 then some ((PFrame.all (L a0)).1.map B, ((PFrame.all (L a0)).2.1 : Int), ((PFrame.all (L a0)).2.2 : Int)) else none
theorem frame_All.calls (a0 : ByteArray) (r1 : List ByteArray) (r2 : Int) (r3 : Int) (w : World) (h : frame_All.f a0 = some (r1, r2, r3)) :
    Calls Try.prog 18 #[.string a0] w fun e w' => ∃ v0_ : Value, e = .returned (.tuple #[v0_, .int .i64 r2, .int .i64 r3]) ∧ Kd.R Kd.string 9 w' w.heap.size (fun _ => True) v0_ r1 ∧ Below w.heap.size w w' := by
  unfold frame_All.f at h
  split at h
  · rename_i hc
    simp only [Option.some.injEq, Prod.mk.injEq] at h
    obtain ⟨rfl, rfl, rfl⟩ := h
    refine (FAll.all_any a0 hc w).mono ?_
    rintro e w' ⟨v, rfl, hr, hb⟩
    refine ⟨v, rfl, Kd.R_of_own ?_ (fun _ _ => trivial), hb⟩
    rw [List.length_map]
    have he : encs Value.string ((PFrame.all (L a0)).1.map B) = (PFrame.all (L a0)).1.map fun s => Value.string (B s) := by
      unfold encs
      rw [List.map_map]
      rfl
    rw [he]
    exact hr
  · cases h
end Go.Proofs.Ytfibccfbcehheaa.Print
