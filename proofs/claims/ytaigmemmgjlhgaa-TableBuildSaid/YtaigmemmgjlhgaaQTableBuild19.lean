/- Texts of this claim, joined by a program of this session (wip/pack.py): BlockD. -/
import Derived.Test.YtaigmemmgjlhgaaQTableBuild17
import Derived.Test.YtaigmemmgjlhgaaQTableBuild18
-- BlockD
namespace Go.Proofs.Ytaigmemmgjlhgaa.Block
open Go.RowKit Aid Txt Print Go.Proofs.YtaigmemmgjlhgaaW.PrintWords
def worst (n : Nat) (l : List PBlock.Row) : Nat := if 1024 < n ∨ (∃ r ∈ l, PBlock.check r = 3) then 3 else 0
theorem q1l (r : PBlock.Row) : PBlock.check r = 0 ∨ PBlock.check r = 2 ∨ PBlock.check r = 3 := by
 unfold PBlock.check
 split
 ·exact .inr (.inl rfl)
 ·split
  ·exact .inr (.inr rfl)
  ·exact .inl rfl
theorem worst_snoc (n : Nat) (l : List PBlock.Row) (r : PBlock.Row) (h : PBlock.check r ≠ 2) : worst n (l ++ [r]) = max (worst n l) (PBlock.check r) := by
 unfold worst
 rcases q1l r with e | e | e
 ·have : (∃ x ∈ l ++ [r], PBlock.check x = 3) ↔ (∃ x ∈ l, PBlock.check x = 3) := by
   constructor
   ·rintro ⟨x, hx, h3⟩
    rcases List.mem_append.1 hx with hx | hx
    ·exact ⟨x, hx, h3⟩
    ·rw [List.mem_singleton.1 hx, e] at h3; omega
   ·rintro ⟨x, hx, h3⟩; exact ⟨x, List.mem_append_left _ hx, h3⟩
  simp only [this, e]; split <;> rfl
 ·exact absurd e h
 ·rw [if_pos (.inr ⟨r, by simp, e⟩), e]; split <;> rfl
theorem worst_le (n : Nat) (l : List PBlock.Row) : worst n l = 0 ∨ worst n l = 3 := by unfold worst; split <;> simp
theorem worst_three {n : Nat} {l : List PBlock.Row} (h : 3 = worst n l) : 1024 < n ∨ ∃ r ∈ l, PBlock.check r = 3 := by
 unfold worst at h
 split at h
 ·rename_i g; exact g
 ·omega
theorem worst_zero {n : Nat} {l : List PBlock.Row} (h : 0 = worst n l) (h2 : ¬ ∃ r ∈ l, PBlock.check r = 2) : n ≤ 1024 ∧ ∀ r ∈ l, PBlock.check r = 0 := by
 unfold worst at h
 split at h
 ·omega
 ·rename_i g
  refine ⟨by omega, fun r hr => ?_⟩
  rcases q1l r with e | e | e
  ·exact e
  ·exact absurd ⟨r, hr, e⟩ h2
  ·exact absurd (.inr ⟨r, hr, e⟩) g
theorem W3.size {w0 w : World} {b1 b2 b3 : Nat} {A : Option Addr} {m c : Nat} {xs last : ByteArray} (h : W3 w0 w b1 b2 b3 (.slice A m c) xs last) : m = xs.size := by
 rcases h.row.2 with ⟨e, h2⟩ | ⟨g, cap, cur, e, _⟩
 ·injection e with _ e _; rw [e]; exact h2.symm
 ·injection e with _ e _
theorem q1z {l : List PBlock.Row} {restart : Int} (h : restart < 1 ∨ 64 < restart ∨ PBlock.order l = false ∨ ∃ r ∈ l, PBlock.check r = 2) : PBlock.build l restart = ([], 2) := by
 unfold PBlock.build; rw [if_pos h]
theorem build_three {l : List PBlock.Row} {restart : Int} (h : ¬ (restart < 1 ∨ 64 < restart ∨ PBlock.order l = false ∨ ∃ r ∈ l, PBlock.check r = 2)) (h2 : 1024 < l.length ∨ (∃ r ∈ l, PBlock.check r = 3) ∨ 65536 < (PBlock.whole l restart.toNat).length) : PBlock.build l restart = ([], 3) := by
 unfold PBlock.build; rw [if_neg h, if_pos h2]
theorem check_any (x : S28) (hx : Fit x) (w : World) : Calls Try.prog 56 #[.agg #[.string x.f0, .int .u64 x.f1, .int .i64 x.f2, .string x.f3]] w fun e w' => e = .returned (.int .i64 (PBlock.check (rowS x) : Nat)) ∧ Below w.heap.size w w' := by
 exact block_Check.calls 3 _ _ _ _ _ w (check_eq x hx 0)
theorem order_any (l : List S28) (hl : ∀ x ∈ l, Fit x) (hs : l.length ≤ 9223372036854775806) (A0 : Option Addr) (c0 : Nat) (w : World) (hr0 : Kd.C k28 w A0 l.length l) (hc0 : l.length ≤ c0) : Calls Try.prog 55 #[.slice A0 l.length c0] w fun e w' => e = .returned (.bool (PBlock.order (l.map rowS))) ∧ Below w.heap.size w w' := by
 obtain ⟨k, hk⟩ := (order_eq l hl hs).rounds
 exact block_Order.calls k A0 c0 l _ w hr0 hc0 hk
theorem four_any (n : Nat) (w : World) : Calls Try.prog 60 #[.int .i64 (n : Int)] w fun e w' => e = .returned (.string (B (PBlock.four n))) ∧ Below w.heap.size w w' :=
 block_four.calls _ _ w (four_eq n)
end Go.Proofs.Ytaigmemmgjlhgaa.Block
