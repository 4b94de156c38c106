/- block: what makes the writer. -/
import Derived.Test.YtjgbcaemcohmpaaBlockX
namespace Go.Proofs.Ytjgbcaemcohmpaa.Block
open Go.RowKit Aid Txt Print Go.Proofs.YtjgbcaemcohmpaaW.PrintWords
theorem writer_any (w0 w : World) (b1 : Nat) (hout : Blk w b1 42 #[.slice none 0 0]) (g1 : w0.heap.size ≤ b1) (low : Below w0.heap.size w0 w) :
    Calls Try.prog 24 #[.pointer (some ⟨b1, 0, none⟩)] w fun e w' => e = .returned (.func (Fn.func 38) #[] #[.pointer (some ⟨w.heap.size + 1, 0, none⟩), .pointer (some ⟨w.heap.size, 0, none⟩)]) ∧ W3 w0 w' b1 (w.heap.size + 1) w.heap.size (.slice none 0 0) ⟨#[]⟩ ⟨#[]⟩ := by
  go_enter Try.func24, Try.ntmps24
  go_wp2_with fail
  go_ret
  refine ⟨rfl, ?_⟩
  generalize hA : w.alloc (.cells #[.pointer (some ⟨b1, 0, none⟩)] 45) = A
  have hs : A.heap.size = w.heap.size + 1 := by rw [← hA]; simp
  have p1 : Blk A b1 42 #[.slice none 0 0] := by rw [← hA]; exact hout.alloc _
  have p3 : Blk A w.heap.size 45 #[.pointer (some ⟨b1, 0, none⟩)] := by rw [← hA]; exact Blk.new w _ _
  have lA : Below w0.heap.size w0 A := by rw [← hA]; exact low.alloc low.size _
  rw [← hs]
  refine ⟨p1.alloc _, Blk.new A _ _, p3.alloc _, ⟨rfl, .inl ⟨rfl, rfl⟩⟩, g1, by have := low.size; omega, low.size, lA.alloc lA.size _⟩
end Go.Proofs.Ytjgbcaemcohmpaa.Block
