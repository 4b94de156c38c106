/- block: how many first bytes two texts have in common; the printed functions of code as the plain ones. -/
import Derived.Test.YtjgbcaemcohmpaaRCode
import Derived.Test.YtjgbcaemcohmpaaRField
import Derived.Test.YtjgbcaemcohmpaaPBlock
import Derived.Test.YtjgbcaemcohmpaaPrint4
namespace Go.Proofs.Ytjgbcaemcohmpaa.Block
open Go.RowKit Aid Txt Print Go.Proofs.YtjgbcaemcohmpaaW.PrintWords
theorem common_ev (a b : ByteArray) (ha : a.size ≤ 9223372036854775806) (d : Nat) : ∀ i : Nat, i ≤ a.size → i ≤ b.size → (L a).length - i ≤ d →
    Ev (fun k => block_common.l0 k a b (i : Int)) ((i + PBlock.common ((L a).drop i) ((L b).drop i) : Nat) : Int) := by
  induction d with
  | zero =>
    intro i hi hb hd
    rw [L_length] at hd
    refine Ev.step (f := fun _ => some (i : Int)) (fun k => ?_) ?_
    · simp only [block_common.l0]
      rw [if_neg (by omega)]
    · rw [show (L a).drop i = [] from List.drop_eq_nil_of_le (by rw [L_length]; omega)]
      exact Ev.now _
  | succ d ih =>
    intro i hi hb hd
    rw [L_length] at hd
    by_cases h1 : i < a.size
    · by_cases h2 : i < b.size
      · have e1 : (L a).drop i = (L a)[i]'(by rw [L_length]; omega) :: (L a).drop (i + 1) := List.drop_eq_getElem_cons _
        have e2 : (L b).drop i = (L b)[i]'(by rw [L_length]; omega) :: (L b).drop (i + 1) := List.drop_eq_getElem_cons _
        have b1 : bt a (i : Int) = ((L a)[i]'(by rw [L_length]; omega)).toNat := bt_get a (by omega) (by omega)
        have b2 : bt b (i : Int) = ((L b)[i]'(by rw [L_length]; omega)).toNat := bt_get b (by omega) (by omega)
        by_cases h3 : (L a)[i]'(by rw [L_length]; omega) = (L b)[i]'(by rw [L_length]; omega)
        · have e := ih (i + 1) (by omega) (by omega) (by rw [L_length]; omega)
          rw [e1, e2, PBlock.common, if_pos h3]
          refine Ev.step (fun k => ?_) (by rw [show i + (PBlock.common ((L a).drop (i + 1)) ((L b).drop (i + 1)) + 1) = i + 1 + PBlock.common ((L a).drop (i + 1)) ((L b).drop (i + 1)) by omega]; exact e)
          simp only [block_common.l0]
          rw [if_pos (by omega), if_pos (by omega), if_pos (by omega), if_pos (by rw [b1, b2, h3]), wrap_id (by omega) (by omega)]
          rfl
        · refine Ev.step (f := fun _ => some (i : Int)) (fun k => ?_) ?_
          · simp only [block_common.l0]
            rw [if_pos (by omega), if_pos (by omega), if_pos (by omega), if_neg (by rw [b1, b2]; exact fun e => h3 (UInt8.toNat_inj.mp (by omega)))]
          · rw [e1, e2, PBlock.common, if_neg h3]
            exact Ev.now _
      · refine Ev.step (f := fun _ => some (i : Int)) (fun k => ?_) ?_
        · simp only [block_common.l0]
          rw [if_pos (by omega), if_neg (by omega)]
        · rw [show (L b).drop i = [] from List.drop_eq_nil_of_le (by rw [L_length]; omega)]
          have : PBlock.common ((L a).drop i) [] = 0 := by cases (L a).drop i <;> rfl
          rw [this]
          exact Ev.now _
    · refine Ev.step (f := fun _ => some (i : Int)) (fun k => ?_) ?_
      · simp only [block_common.l0]
        rw [if_neg (by omega)]
      · rw [show (L a).drop i = [] from List.drop_eq_nil_of_le (by rw [L_length]; omega)]
        exact Ev.now _
theorem common_any (a b : ByteArray) (ha : a.size ≤ 9223372036854775806) (w : World) : Calls Try.prog 39 #[.string a, .string b] w fun e w' => e = .returned (.int .i64 (PBlock.common (L a) (L b) : Nat)) ∧ Drawn0 w w' := by
  have e := common_ev a b ha _ 0 (by omega) (by omega) (Nat.le_refl _)
  obtain ⟨k, hk⟩ := e.rounds
  have := block_common.calls k a b _ w hk
  simp only [List.drop_zero, Nat.zero_add] at this
  exact this
theorem putUint_any (x : Int) (h0 : 0 ≤ x) (h1 : x < 18446744073709551616) (w : World) : Calls Try.prog 40 #[.int .u64 x] w fun e w' => e = .returned (.string (B (PCode.putUint x.toNat))) ∧ Below w.heap.size w w' := by
  obtain ⟨n, rfl⟩ := Int.eq_ofNat_of_zero_le h0
  obtain ⟨k, hk⟩ := (code_put n (by omega)).rounds
  exact code_PutUint.calls k (n : Int) _ w hk
theorem putField_any (x : ByteArray) (h : x.size ≤ 4611686018427387904) (w : World) : Calls Try.prog 41 #[.string x] w fun e w' => e = .returned (.string (B (PCode.putField (L x)))) ∧ Below w.heap.size w w' := by
  obtain ⟨k, hk⟩ := (code_putField x h).rounds
  exact code_PutField.calls k x _ w hk
end Go.Proofs.Ytjgbcaemcohmpaa.Block
