/- Package code's printed functions and its reference's short numbers and fields are the plain ones. -/
import Derived.Test.YtjgbcaemcohmpaaText
import Derived.Test.YtjgbcaemcohmpaaGCode
import Derived.Test.YtjgbcaemcohmpaaPrint3
import Derived.Test.YtjgbcaemcohmpaaPrint2
import Derived.Test.YtjgbcaemcohmpaaPrint4
namespace Go.Proofs.Ytjgbcaemcohmpaa.Print
open Go.RowKit Txt Go.Proofs.YtjgbcaemcohmpaaW.PrintWords
theorem wrap_u64_id {x : Int} (h0 : 0 ≤ x) (h1 : x < 18446744073709551616) : IntKind.u64.wrap x = x := by
  rw [IntKind.wrap_u64]; omega
theorem or_byte (n : Nat) : Go.bits .or .u8 ((n : Int) % 256) 128 = ((n % 128 + 128 : Nat) : Int) := by
  have h : ∀ m : Fin 256, Go.bits .or .u8 (m.val : Int) 128 = ((m.val % 128 + 128 : Nat) : Int) := by decide +kernel
  have := h ⟨n % 256, by omega⟩
  rw [show ((n : Int) % 256) = ((n % 256 : Nat) : Int) by omega, this]
  simp only
  congr 1
  omega
theorem L_nums_snoc (l : List Int) (v : Int) : L (strOfNums (l ++ [v])) = L (strOfNums l) ++ [UInt8.ofNat v.toNat] := by
  rw [L_nums, L_nums, List.map_append]; rfl
theorem code_putUint (j : Nat) : ∀ (n : Nat) (x : List Int), n < 128 ^ (j + 1) → x.length + j + 1 ≤ 140737488355328 → Ev (fun k => code_PutUint.l0 k (n : Int) x) (B (L (strOfNums x) ++ PCode.putUint n)) := by
  induction j with
  | zero =>
    intro n x h hx
    refine Ev.step (f := fun _ => some (strOfNums (x ++ [(n : Int) % 256]))) (fun k => ?_) ?_
    · simp only [code_PutUint.l0]
      rw [if_neg (by omega), if_pos (by omega)]
    · rw [PCode.putUint_small (by omega)]
      have : B (L (strOfNums x) ++ [UInt8.ofNat n]) = strOfNums (x ++ [(n : Int) % 256]) := by
        apply L_inj
        rw [L_nums_snoc, L_B]
        rw [show ((n : Int) % 256).toNat = n by omega]
      rw [this]
      exact Ev.now _
  | succ j ih =>
    intro n x h hx
    by_cases hn : n < 128
    · refine Ev.step (f := fun _ => some (strOfNums (x ++ [(n : Int) % 256]))) (fun k => ?_) ?_
      · simp only [code_PutUint.l0]
        rw [if_neg (by omega), if_pos (by omega)]
      · rw [PCode.putUint_small (by omega)]
        have : B (L (strOfNums x) ++ [UInt8.ofNat n]) = strOfNums (x ++ [(n : Int) % 256]) := by
          apply L_inj
          rw [L_nums_snoc, L_B]
          rw [show ((n : Int) % 256).toNat = n by omega]
        rw [this]
        exact Ev.now _
    · have hd : n / 128 < 128 ^ (j + 1) := by rw [Nat.div_lt_iff_lt_mul (by omega)]; rw [Nat.pow_succ] at h; exact h
      have e := ih (n / 128) (x ++ [Go.bits .or .u8 ((n : Int) % 256) 128]) hd (by simp only [List.length_append, List.length_cons, List.length_nil]; omega)
      rw [L_nums_snoc, or_byte, List.append_assoc, Int.toNat_natCast, List.singleton_append, ← PCode.putUint_big hn] at e
      refine Ev.step (fun k => ?_) e
      simp only [code_PutUint.l0]
      rw [if_pos (by omega), if_pos (by omega), or_byte]
      rfl
theorem code_put (n : Nat) (h : n < 18446744073709551616) : Ev (fun k => code_PutUint.f k (n : Int)) (B (PCode.putUint n)) :=
  code_putUint 9 n [] (by omega) (by simp)
theorem low_byte (n : Nat) : ((((Int.tmod (n : Int) 128) % 256) + 128) % 256) = ((n % 128 + 128 : Nat) : Int) := by
  rw [Int.tmod_eq_emod_of_nonneg (by omega)]; omega
theorem ref_putUint (j : Nat) : ∀ (n : Nat) (x : ByteArray), n < 128 ^ (j + 1) → n < 18446744073709551616 → x.size + j + 1 ≤ 9223372036854775807 → Ev (fun k => freshetref02_PutUint.l0 k (n : Int) x) (B (L x ++ PCode.putUint n)) := by
  induction j with
  | zero =>
    intro n x h _ hx
    refine Ev.step (f := fun _ => some (x ++ strOfNums [(n : Int) % 256])) (fun k => ?_) ?_
    · simp only [freshetref02_PutUint.l0, Option.bind_some]
      rw [if_neg (by omega), if_pos (by rw [← L_length (strOfNums _), L_nums]; simp; omega)]
    · rw [PCode.putUint_small (by omega)]
      have : B (L x ++ [UInt8.ofNat n]) = x ++ strOfNums [(n : Int) % 256] := by
        apply L_inj
        rw [L_append, L_B, L_nums]
        simp only [List.map_cons, List.map_nil]
        rw [show ((n : Int) % 256).toNat = n by omega]
      rw [this]
      exact Ev.now _
  | succ j ih =>
    intro n x h hN hx
    by_cases hn : n < 128
    · refine Ev.step (f := fun _ => some (x ++ strOfNums [(n : Int) % 256])) (fun k => ?_) ?_
      · simp only [freshetref02_PutUint.l0, Option.bind_some]
        rw [if_neg (by omega), if_pos (by rw [← L_length (strOfNums _), L_nums]; simp; omega)]
      · rw [PCode.putUint_small (by omega)]
        have : B (L x ++ [UInt8.ofNat n]) = x ++ strOfNums [(n : Int) % 256] := by
          apply L_inj
          rw [L_append, L_B, L_nums]
          simp only [List.map_cons, List.map_nil]
          rw [show ((n : Int) % 256).toNat = n by omega]
        rw [this]
        exact Ev.now _
    · have hd : n / 128 < 128 ^ (j + 1) := by rw [Nat.div_lt_iff_lt_mul (by omega)]; rw [Nat.pow_succ] at h; exact h
      have es : (strOfNums [((n % 128 + 128 : Nat) : Int)]).size = 1 := by rw [← L_length, L_nums]; rfl
      have e := ih (n / 128) (x ++ strOfNums [((n % 128 + 128 : Nat) : Int)]) hd (by omega) (by rw [ByteArray.size_append, es]; omega)
      rw [L_append, L_nums, List.append_assoc] at e
      simp only [List.map_cons, List.map_nil, Int.toNat_natCast, List.singleton_append] at e
      rw [← PCode.putUint_big hn] at e
      refine Ev.step (fun k => ?_) e
      simp only [freshetref02_PutUint.l0, Option.bind_some]
      rw [if_pos (by omega), low_byte, if_pos (by rw [es]; omega), Int.tdiv_eq_ediv_of_nonneg (by omega), wrap_u64_id (by omega) (by omega)]
      rfl
theorem ref_put (n : Nat) (h : n < 18446744073709551616) : Ev (fun k => freshetref02_PutUint.f k (n : Int)) (B (PCode.putUint n)) :=
  ref_putUint 9 n ⟨#[]⟩ (by omega) h (by decide)
/-! the reference's reading of a short number -/
def low : List UInt8 → Nat
  | [] => 0
  | c :: l => c.toNat % 128 + 128 * low l
theorem low_snoc (l : List UInt8) (c : UInt8) : low (l ++ [c]) = low l + (c.toNat % 128) * 128 ^ l.length := by
  induction l with
  | nil => simp [low]
  | cons d l ih =>
    simp only [List.cons_append, low, ih, List.length_cons, Nat.pow_succ]
    rw [Nat.mul_add, Nat.add_assoc, Nat.mul_comm 128 (_ * _), Nat.mul_assoc]
theorem low_lt (l : List UInt8) : low l < 128 ^ l.length := by
  induction l with
  | nil => simp [low]
  | cons d l ih => simp only [low, List.length_cons, Nat.pow_succ]; omega
def lift (d : Nat) (v : Nat) (r : Nat × Nat × Nat) : Nat × Nat × Nat := if r.2.2 = 0 then (r.1 * 128 ^ d + v, r.2.1 + d, 0) else (0, 0, r.2.2)
theorem uintAt_skip (d : Nat) : ∀ (k : Nat) (l : List UInt8), (∀ j (h : j < l.length), j < d → 128 ≤ (l[j]).toNat) → d ≤ l.length → k + d ≤ 9 → PCode.uintAt k l = lift d (low (l.take d)) (PCode.uintAt (k + d) (l.drop d)) := by
  induction d with
  | zero =>
    intro k l _ _ _
    unfold lift
    simp only [Nat.add_zero, List.drop_zero, List.take_zero, low, Nat.pow_zero, Nat.mul_one]
    rcases PCode.uintAt_err k l with h | h | h
    · rw [if_pos h, ← h]
    · rw [h]; rfl
    · rw [h]; rfl
  | succ d ih =>
    intro k l hb hl hk
    cases l with
    | nil => simp at hl
    | cons c l =>
      have hc := hb 0 (by simp) (by omega)
      simp only [List.getElem_cons_zero] at hc
      have e := ih (k + 1) l (fun j h hj => by have := hb (j + 1) (by simpa using h) (by omega); simpa using this) (by simpa using hl) (by omega)
      rw [PCode.uintAt, if_neg (by omega), if_neg (by omega), e]
      rw [show k + 1 + d = k + (d + 1) by omega]
      unfold lift
      simp only [List.drop_succ_cons, List.take_succ_cons]
      by_cases h : (PCode.uintAt (k + (d + 1)) (List.drop d l)).2.2 = 0
      · have hcl := c.toNat_lt
        have hm : c.toNat % 128 = c.toNat - 128 := by omega
        simp only [h, if_true, low, Nat.pow_succ, hm, Prod.mk.injEq, and_true]
        refine ⟨?_, by omega⟩
        rw [Nat.add_mul, Nat.mul_assoc]
        omega
      · simp only [h, if_false]
theorem ref_uint_l1 (s : ByteArray) (hs : s.size ≤ 140737488355328) (i : Nat) (T : Nat) (hT : T < 18446744073709551616) (j : Nat) : ∀ (u : Nat), j ≤ s.size → u * 128 ^ j + low ((L s).take j) = T →
    Ev (fun k => freshetref02_Uint.l1 k s i (u : Int) ((j : Int) - 1)) ((T : Int), wrap64 ((i : Int) + 1), 0) := by
  induction j with
  | zero =>
    intro u _ h
    refine Ev.step (f := fun _ => some ((T : Int), wrap64 ((i : Int) + 1), 0)) (fun k => ?_) (Ev.now _)
    simp only [freshetref02_Uint.l1]
    rw [if_neg (by omega)]
    simp [low] at h
    rw [h]
  | succ j ih =>
    intro u hj h
    have hlt : j < (L s).length := by rw [L_length]; omega
    rw [List.take_succ_eq_append_getElem hlt, low_snoc, List.length_take_of_le (by omega)] at h
    have hb := ((L s)[j]).toNat_lt
    have h' : (u * 128 + (L s)[j].toNat % 128) * 128 ^ j + low ((L s).take j) = T := by
      rw [← h, Nat.pow_succ, Nat.add_mul, Nat.mul_assoc, Nat.mul_comm 128 (128 ^ j)]; omega
    have hu : u * 128 + (L s)[j].toNat % 128 ≤ T := by
      have : u * 128 + (L s)[j].toNat % 128 ≤ (u * 128 + (L s)[j].toNat % 128) * 128 ^ j := Nat.le_mul_of_pos_right _ (Nat.pow_pos (by omega))
      omega
    refine Ev.step (fun k => ?_) (ih _ (by omega) h')
    simp only [freshetref02_Uint.l1]
    rw [if_pos (by omega), if_pos (by omega), if_pos (by omega), bt_get s (by omega) (by omega)]
    simp only [show ((j + 1 : Nat) : Int) - 1 = (j : Int) by omega, Int.toNat_natCast]
    rw [Int.tmod_eq_emod_of_nonneg (by omega), wrap_u64_id (x := (u : Int) * 128) (by omega) (by omega), wrap_u64_id (x := ((L s)[j].toNat : Int) % 128) (by omega) (by omega), wrap_u64_id (by omega) (by omega), wrap_id (by omega) (by omega)]
    rw [show ((u : Int) * 128 + ((L s)[j].toNat : Int) % 128) = ((u * 128 + (L s)[j].toNat % 128 : Nat) : Int) by omega]
/-- three numbers as whole numbers -/
abbrev Z3 (r : Nat × Nat × Nat) : Int × Int × Int := ((r.1 : Int), (r.2.1 : Int), (r.2.2 : Int))
theorem ref_uint_l0 (s : ByteArray) (hs : s.size ≤ 140737488355328) (d : Nat) : ∀ i : Nat, i + d = 10 → i ≤ s.size → (∀ j (h : j < (L s).length), j < i → 128 ≤ ((L s)[j]).toNat) → Ev (fun k => freshetref02_Uint.l0 k s i) (Z3 (PCode.uint (L s))) := by
  have hlen := L_length s
  induction d with
  | zero =>
    intro i hi his hb
    obtain rfl : i = 10 := by omega
    have e : PCode.uint (L s) = (0, 0, 7) := by
      unfold PCode.uint
      rw [uintAt_skip 9 0 (L s) (fun j h hj => hb j h (by omega)) (by omega) (by omega), List.drop_eq_getElem_cons (by omega : 9 < (L s).length)]
      have := hb 9 (by omega) (by omega)
      unfold PCode.uintAt
      rw [if_pos (by omega)]
      rfl
    rw [e]
    refine Ev.step (f := fun k => freshetref02_Uint.j1 k s ((10 : Nat) : Int)) (fun k => ?_) ?_
    · simp only [freshetref02_Uint.l0]
      by_cases h : ((10 : Nat) : Int) < (s.size : Int)
      · rw [if_pos h, if_neg (by omega)]
      · rw [if_neg h]
    · refine Ev.step (f := fun k => freshetref02_Uint.j2 k s ((10 : Nat) : Int) false) (fun k => ?_) ?_
      · simp only [freshetref02_Uint.j1]
        have : decide (((10 : Nat) : Int) < 10) = false := rfl
        by_cases h : ((10 : Nat) : Int) = (s.size : Int)
        · rw [if_pos h, this]
        · rw [if_neg h]
      · refine Ev.step (f := fun k => freshetref02_Uint.j3 k s ((10 : Nat) : Int) true) (fun k => ?_) ?_
        · simp only [freshetref02_Uint.j2]
          rw [if_neg (by simp), if_pos (by omega)]
        · refine Ev.step (f := fun _ => some (0, 0, 7)) (fun k => ?_) (Ev.now _)
          simp only [freshetref02_Uint.j3, if_true]
  | succ d ih =>
    intro i hi his hb
    by_cases hlt : i < s.size
    · by_cases h128 : 128 ≤ ((L s)[i]'(by omega)).toNat
      · refine Ev.step (fun k => ?_) (ih (i + 1) (by omega) (by omega) (fun j h hj => by
          rcases Nat.lt_or_ge j i with h1 | h1
          · exact hb j h h1
          · obtain rfl : j = i := by omega
            exact h128))
        simp only [freshetref02_Uint.l0]
        rw [if_pos (by omega), if_pos (by omega), if_pos (by omega), bt_get s (by omega) (by omega)]
        simp only [Int.toNat_natCast]
        rw [if_pos (by omega), wrap_id (by omega) (by omega)]
        rfl
      · -- the last byte of a number
        have hbt : bt s (i : Int) = (((L s)[i]'(by omega)).toNat : Int) := by
          rw [bt_get s (by omega) (by omega)]; rfl
        refine Ev.step (f := fun k => freshetref02_Uint.j1 k s (i : Int)) (fun k => ?_) ?_
        · simp only [freshetref02_Uint.l0]
          rw [if_pos (by omega), if_pos (by omega), if_pos (by omega), hbt, if_neg (by omega)]
        · refine Ev.step (f := fun k => freshetref02_Uint.j2 k s (i : Int) false) (fun k => ?_) ?_
          · simp only [freshetref02_Uint.j1]
            rw [if_neg (by omega)]
          · have hu : PCode.uint (L s) = lift i (low ((L s).take i)) (PCode.uintAt i ((L s).drop i)) := by
              have := uintAt_skip i 0 (L s) hb (by omega) (by omega)
              rw [Nat.zero_add] at this
              exact this
            rw [List.drop_eq_getElem_cons (by omega : i < (L s).length)] at hu
            unfold PCode.uintAt at hu
            generalize hc : ((L s)[i]'(by omega)).toNat = c at hu h128 hbt
            by_cases hbad : (i = 9 ∧ 1 < c) ∨ (0 < i ∧ c = 0)
            · have e : PCode.uint (L s) = (0, 0, 7) := by
                rw [hu]
                by_cases h9 : i = 9 ∧ 1 < c
                · rw [if_pos h9]; rfl
                · rw [if_neg h9, if_pos (by omega), if_pos (by omega)]; rfl
              rw [e]
              refine Ev.step (f := fun k => freshetref02_Uint.j3 k s (i : Int) true) (fun k => ?_) ?_
              · simp only [freshetref02_Uint.j2]
                rw [if_neg (by simp), if_neg (by omega), if_pos (by omega), if_pos (by omega), if_pos (by omega), hbt]
                by_cases h0 : c = 0
                · rw [if_pos (by omega)]
                · rw [if_neg (by omega), if_pos (by omega)]
                  rw [decide_eq_true (by omega)]
              · refine Ev.step (f := fun _ => some (0, 0, 7)) (fun k => ?_) (Ev.now _)
                simp only [freshetref02_Uint.j3, if_true]
            · have e : PCode.uint (L s) = (c * 128 ^ i + low ((L s).take i), i + 1, 0) := by
                rw [hu, if_neg (by omega), if_pos (by omega), if_neg (by omega)]
                unfold lift
                simp only [if_true]
                rw [Nat.add_comm 1 i]
              rw [e]
              refine Ev.step (f := fun k => freshetref02_Uint.j3 k s (i : Int) false) (fun k => ?_) ?_
              · simp only [freshetref02_Uint.j2]
                rw [if_neg (by simp), if_neg (by omega)]
                by_cases h0 : 0 < i
                · rw [if_pos (by omega), if_pos (by omega), if_pos (by omega), hbt, if_neg (by omega)]
                  by_cases h9 : i = 9
                  · rw [if_pos (by omega), decide_eq_false (by omega)]
                  · rw [if_neg (by omega)]
                · rw [if_neg (by omega), if_neg (by omega)]
              · have hT : c * 128 ^ i + low ((L s).take i) < 18446744073709551616 := by
                  have hl := low_lt ((L s).take i)
                  rw [List.length_take_of_le (by omega)] at hl
                  by_cases h9 : i = 9
                  · subst h9; have : c ≤ 1 := by omega
                    have := Nat.mul_le_mul_right (128 ^ 9) this
                    omega
                  · have hp : 128 ^ i ≤ 128 ^ 8 := Nat.pow_le_pow_right (by omega) (by omega)
                    have := Nat.mul_le_mul (show c ≤ 127 by omega) hp
                    omega
                have hlow : low ((L s).take (i + 1)) = c * 128 ^ i + low ((L s).take i) := by
                  rw [List.take_succ_eq_append_getElem (by omega), low_snoc, List.length_take_of_le (by omega), hc, Nat.mod_eq_of_lt (by omega), Nat.add_comm]
                have h1 := ref_uint_l1 s hs i _ hT (i + 1) 0 (by omega) (by rw [hlow]; omega)
                refine Ev.step (fun k => ?_) (by
                  rw [show ((i + 1 : Nat) : Int) - 1 = (i : Int) by omega, wrap_id (by omega) (by omega)] at h1
                  exact h1)
                simp only [freshetref02_Uint.j3]
                rw [if_neg (by simp)]
                rfl
    · have e : PCode.uint (L s) = (0, 0, 6) := by
        have := uintAt_skip i 0 (L s) hb (by omega) (by omega)
        unfold PCode.uint
        rw [this, List.drop_of_length_le (by omega)]
        rfl
      rw [e]
      refine Ev.step (f := fun k => freshetref02_Uint.j1 k s (i : Int)) (fun k => ?_) ?_
      · simp only [freshetref02_Uint.l0]
        rw [if_neg (by omega)]
      · refine Ev.step (f := fun k => freshetref02_Uint.j2 k s (i : Int) true) (fun k => ?_) ?_
        · simp only [freshetref02_Uint.j1]
          rw [if_pos (by omega), decide_eq_true (by omega)]
        · refine Ev.step (f := fun _ => some (0, 0, 6)) (fun k => ?_) (Ev.now _)
          simp only [freshetref02_Uint.j2, if_true]
theorem ref_uint (s : ByteArray) (hs : s.size ≤ 140737488355328) : Ev (fun k => freshetref02_Uint.f k s) (Z3 (PCode.uint (L s))) :=
  ref_uint_l0 s hs 10 0 (by omega) (by omega) (fun j h hj => by omega)
theorem code_uint (s : ByteArray) (hs : s.size ≤ 9223372036854775806) : code_Uint.f s = some (Z3 (PCode.uint (L s))) := if_pos hs
end Go.Proofs.Ytjgbcaemcohmpaa.Print
