/- Of any text and key it is told what the document says: for every input. -/
import Derived.Test.YtdgfilbfkoeidaaPBloomF
import Derived.Test.YtdgfilbfkoeidaaPrint6
import Derived.Test.YtdgfilbfkoeidaaPrint5
namespace Go.Proofs.Ytdgfilbfkoeidaa.Pure
open Go.RowKit PLink Txt Print Bloom Go.Proofs.YtdgfilbfkoeidaaW.PrintWords Go.Proofs.YtdgfilbfkoeidaaW.PrintMore
theorem refcheck_f (F : ByteArray) : freshetref10_Check.f F = some (chk F : Int) := by
  unfold freshetref10_Check.f chk
  have h0 := bt_getD F 0
  simp only [Int.toNat_zero] at h0
  by_cases hf : fine F
  · rw [if_pos hf]
    obtain ⟨a, b, c, d⟩ := hf
    rw [if_neg (by omega), if_neg (by omega), if_pos (by omega), if_neg (by omega), if_neg (by omega)]
    rfl
  · rw [if_neg hf]
    by_cases a : (F.size : Int) < 9
    · rw [if_pos a]; rfl
    · rw [if_neg a]
      by_cases b : (F.size : Int) > 262145
      · rw [if_pos b]; rfl
      · rw [if_neg b, if_pos (by omega)]
        by_cases c : bt F 0 = 0
        · rw [if_pos c]; rfl
        · rw [if_neg c]
          by_cases d : bt F 0 > 22
          · rw [if_pos d]; rfl
          · exact absurd ⟨by omega, by omega, by omega, by omega⟩ hf
theorem bit_ask (c : UInt8) (s : Nat) (hs : s < 8) : (Int.tmod (shr .u8 (c.toNat : Int) (s : Int)) 2 = 0) ↔ c.toNat.testBit s = false := by
  unfold shr
  rw [Int.toNat_natCast, show min s IntKind.u8.bits = s from by show min s 8 = s; omega]
  have e : ((c.toNat : Int) / 2 ^ s) = ((c.toNat / 2 ^ s : Nat) : Int) := by push_cast; rfl
  rw [e, Nat.testBit_eq_decide_div_mod_eq, decide_eq_false_iff_not]
  generalize c.toNat / 2 ^ s = m
  rw [Int.tmod_eq_emod_of_nonneg (by omega)]
  omega
theorem refhas_l0 (F key : ByteArray) (hf : fine F) (hk : key.size ≤ 300) (d : Nat) : ∀ i : Nat, i + d = ((L F).getD 0 0).toNat → (List.range i).all (fun i => PBloom.bitOf ((L F).drop 1) (place key (8 * (F.size - 1)) i)) = true →
    Ev (fun k => freshetref10_Has.l0 k F key (i : Int)) ((List.range ((L F).getD 0 0).toNat).all (fun i => PBloom.bitOf ((L F).drop 1) (place key (8 * (F.size - 1)) i))) := by
  obtain ⟨f1, f2, f3, f4⟩ := hf
  have h0 := bt_getD F 0
  simp only [Int.toNat_zero] at h0
  have e0 : wrap64 (bt F 0) = (((L F).getD 0 0).toNat : Int) := by rw [h0, wrap_id (by omega) (by omega)]
  have em : ((((wrap64 ((F.size : Int) - 1)) % 4294967296) * 8) % 4294967296) = ((8 * (F.size - 1) : Nat) : Int) := by
    rw [wrap_id (by omega) (by omega)]; omega
  induction d with
  | zero =>
    intro i hi hall
    obtain rfl : i = ((L F).getD 0 0).toNat := by omega
    rw [hall]
    refine Ev.step (f := fun _ => some true) (fun k => ?_) (Ev.now _)
    rw [freshetref10_Has.l0, if_pos (by omega), e0, if_neg (by omega)]
  | succ d ih =>
    intro i hi hall
    have hb := ref_bit key (by omega) i (8 * (F.size - 1)) (by omega) (by omega)
    have hpl : place key (8 * (F.size - 1)) i < 8 * (F.size - 1) := Nat.mod_lt _ (by omega)
    obtain ⟨p, hp⟩ : ∃ p, p = place key (8 * (F.size - 1)) i := ⟨_, rfl⟩
    rw [← hp] at hb hpl
    have d1 : ((Int.tdiv (p : Int) 8) % 4294967296) = ((p / 8 : Nat) : Int) := by rw [Int.tdiv_eq_ediv_of_nonneg (by omega)]; omega
    have d2 : ((1 + ((p / 8 : Nat) : Int)) % 4294967296) = ((1 + p / 8 : Nat) : Int) := by omega
    have d3 : Int.tmod (p : Int) 8 = ((p % 8 : Nat) : Int) := by rw [Int.tmod_eq_emod_of_nonneg (by omega)]; omega
    have gb : bt F ((1 + p / 8 : Nat) : Int) = ((((L F).drop 1).getD (p / 8) 0).toNat : Int) := by
      rw [bt_getD, Int.toNat_natCast]
      simp only [List.getD_eq_getElem?_getD, List.getElem?_drop]
    have ha := bit_ask (((L F).drop 1).getD (p / 8) 0) (p % 8) (by omega)
    have hbit : PBloom.bitOf ((L F).drop 1) (place key (8 * (F.size - 1)) i) = (((L F).drop 1).getD (p / 8) 0).toNat.testBit (p % 8) := by rw [← hp]; rfl
    refine Ev.step (f := fun k => (freshetref10_Bit.f k key (i : Int) ((8 * (F.size - 1) : Nat) : Int)).bind fun t162 => (if 0 ≤ ((1 + ((Int.tdiv t162 8) % 4294967296)) % 4294967296) then (if ((1 + ((Int.tdiv t162 8) % 4294967296)) % 4294967296) < (F.size : Int) then (if 0 ≤ (Int.tmod t162 8) then (if (Int.tmod (shr .u8 (bt F ((1 + ((Int.tdiv t162 8) % 4294967296)) % 4294967296)) (Int.tmod t162 8)) 2) = 0 then (some false) else (freshetref10_Has.l0 k F key (wrap64 ((i : Int) + 1)))) else (none)) else (none)) else (none))) (fun k => ?_) (Ev.bind hb ?_)
    · rw [freshetref10_Has.l0, if_pos (by omega), e0, if_pos (by omega), em]
    · simp only [d1, d2, d3, gb]
      simp only [if_pos (show (0 : Int) ≤ ((1 + p / 8 : Nat) : Int) by omega), if_pos (show ((1 + p / 8 : Nat) : Int) < (F.size : Int) by omega), if_pos (show (0 : Int) ≤ ((p % 8 : Nat) : Int) by omega)]
      cases hv : (((L F).drop 1).getD (p / 8) 0).toNat.testBit (p % 8) with
      | false =>
        simp only [if_pos (ha.2 hv)]
        rw [all_false (k := ((L F).getD 0 0).toNat) (i := i) (by omega) (hbit.trans hv)]
        exact Ev.now _
      | true =>
        have hn : ¬ (Int.tmod (shr .u8 (((((L F).drop 1).getD (p / 8) 0).toNat : Nat) : Int) ((p % 8 : Nat) : Int)) 2 = 0) := fun h => by rw [ha.1 h] at hv; cases hv
        simp only [if_neg hn]
        have := ih (i + 1) (by omega) (by rw [all_succ, hall, hbit, hv]; rfl)
        rw [wrap_id (x := (i : Int) + 1) (by omega) (by omega)]
        exact this
theorem refhas_f (F key : ByteArray) (hk : key.size ≤ 300) : Ev (fun k => freshetref10_Has.f k F key) (has F key) := by
  unfold freshetref10_Has.f has
  simp only [refcheck_f, Option.bind_some, chk]
  by_cases hf : fine F
  · simp only [if_pos hf, Int.natCast_zero, if_true]
    exact refhas_l0 F key hf hk _ 0 (Nat.zero_add _) rfl
  · simp only [if_neg hf]
    exact Ev.now _
theorem refones_l1 (F : ByteArray) (i : Int) (r : Int) : ∀ (b c : Nat), c < 2 ^ b → b ≤ 8 → ∀ x : Nat, x + b ≤ 3000000 → Ev (fun k => freshetref10_Ones.l0 k F ((x + PBloom.pop b c : Nat) : Int) (wrap64 (i + 1))) r → Ev (fun k => freshetref10_Ones.l1 k F (x : Int) i (c : Int)) r := by
  intro b
  induction b with
  | zero =>
    intro c hc _ x hx h
    obtain rfl : c = 0 := by omega
    refine Ev.step (fun k => ?_) h
    rw [freshetref10_Ones.l1, if_neg (by simp)]
    rfl
  | succ b ih =>
    intro c hc hb x hx h
    by_cases h0 : c = 0
    · subst h0
      have hp : ∀ b, PBloom.pop b 0 = 0 := by
        intro b
        induction b with
        | zero => rfl
        | succ b ih => simp only [PBloom.pop]; rw [Nat.zero_div, ih]
      rw [hp] at h
      refine Ev.step (fun k => ?_) h
      rw [freshetref10_Ones.l1, if_neg (by simp)]
      rfl
    · have hpl := PBloom.pop_le (b + 1) c
      have h256 : 2 ^ (b + 1) ≤ 2 ^ 8 := Nat.pow_le_pow_right (by omega) hb
      have e1 : wrap64 (Int.tmod (c : Int) 2) = ((c % 2 : Nat) : Int) := by rw [Int.tmod_eq_emod_of_nonneg (by omega), wrap_id (by omega) (by omega)]; omega
      have e2 : wrap64 ((x : Int) + ((c % 2 : Nat) : Int)) = ((x + c % 2 : Nat) : Int) := by rw [wrap_id (by omega) (by omega)]; omega
      have e3 : (Int.tdiv (c : Int) 2) % 256 = ((c / 2 : Nat) : Int) := by rw [Int.tdiv_eq_ediv_of_nonneg (by omega)]; omega
      have e4 : x + PBloom.pop (b + 1) c = x + c % 2 + PBloom.pop b (c / 2) := by simp only [PBloom.pop]; omega
      rw [e4] at h
      have := ih (c / 2) (by rw [Nat.pow_succ] at hc; omega) (by omega) (x + c % 2) (by omega) h
      refine Ev.step (fun k => ?_) this
      rw [freshetref10_Ones.l1, if_pos (by omega), e1, e2, e3]
theorem refones_l0 (F : ByteArray) (hf : fine F) (d : Nat) : ∀ i : Nat, i + d = F.size - 1 → Ev (fun k => freshetref10_Ones.l0 k F ((PBloom.ones (((L F).drop 1).take i) : Nat) : Int) ((i + 1 : Nat) : Int)) ((PBloom.ones ((L F).drop 1) : Nat) : Int) := by
  obtain ⟨f1, f2, f3, f4⟩ := id hf
  have hlen : ((L F).drop 1).length = F.size - 1 := by rw [List.length_drop, L_length]
  induction d with
  | zero =>
    intro i hi
    rw [List.take_of_length_le (by omega)]
    refine Ev.step (f := fun k => freshetref10_Ones.j1 k F ((PBloom.ones ((L F).drop 1) : Nat) : Int) ((i + 1 : Nat) : Int) false) (fun k => ?_) ?_
    · rw [freshetref10_Ones.l0, if_neg (by omega)]
    · refine Ev.step (f := fun _ => some _) (fun k => ?_) (Ev.now _)
      rw [freshetref10_Ones.j1, if_neg (by simp)]
  | succ d ih =>
    intro i hi
    have hs := ones_small ((L F).drop 1) i
    have hlt : i < ((L F).drop 1).length := by omega
    have hsn := ones_snoc ((L F).drop 1) i _ (List.getElem?_eq_getElem hlt)
    have hc := (((L F).drop 1)[i]).toNat_lt
    have hpp := pop_halves ⟨(((L F).drop 1)[i]).toNat, hc⟩
    simp only at hpp
    rw [← hpp] at hsn
    refine Ev.step (f := fun k => freshetref10_Ones.j1 k F ((PBloom.ones (((L F).drop 1).take i) : Nat) : Int) ((i + 1 : Nat) : Int) true) (fun k => ?_) ?_
    · rw [freshetref10_Ones.l0, if_pos (by omega), refcheck_f, Option.bind_some, chk, if_pos hf]
      rfl
    · have hb : bt F ((i + 1 : Nat) : Int) = ((((L F).drop 1)[i]).toNat : Int) := by
        have hge : ((L F).drop 1)[i]? = (L F)[i + 1]? := by rw [List.getElem?_drop, Nat.add_comm]
        rw [List.getElem?_eq_getElem hlt] at hge
        rw [bt_getD, Int.toNat_natCast, List.getD_eq_getElem?_getD, ← hge]
        rfl
      refine Ev.step (f := fun k => freshetref10_Ones.l1 k F ((PBloom.ones (((L F).drop 1).take i) : Nat) : Int) ((i + 1 : Nat) : Int) ((((L F).drop 1)[i]).toNat : Int)) (fun k => ?_) ?_
      · rw [freshetref10_Ones.j1, if_pos rfl, if_pos (by omega), if_pos (by omega), hb]
      · refine refones_l1 F _ _ 8 _ hc (by omega) _ (by omega) ?_
        rw [← hsn, wrap_id (x := ((i + 1 : Nat) : Int) + 1) (by omega) (by omega)]
        exact ih (i + 1) (by omega)
theorem refones_f (F : ByteArray) : Ev (fun k => freshetref10_Ones.f k F) ((ones F : Nat) : Int) := by
  unfold freshetref10_Ones.f ones
  by_cases hf : fine F
  · rw [if_pos hf]
    exact refones_l0 F hf _ 0 (Nat.zero_add _)
  · rw [if_neg hf]
    refine Ev.step (f := fun k => freshetref10_Ones.j1 k F 0 1 false) (fun k => ?_) ?_
    · rw [freshetref10_Ones.l0, refcheck_f, Option.bind_some, chk, if_neg hf]
      split <;> rfl
    · refine Ev.step (f := fun _ => some _) (fun k => ?_) (Ev.now _)
      rw [freshetref10_Ones.j1, if_neg (by simp)]
      rfl
theorem BloomHas : freshetlaw10_BloomHas.Pure := by
  intro F key hF hK
  refine Ev.rounds ?_
  unfold freshetlaw10_BloomHas.f
  have out : Ev (fun k => freshetlaw10_BloomHas.j0 k F key true) true := by
    refine Ev.step (f := fun _ => some true) (fun k => ?_) (Ev.now _)
    rw [freshetlaw10_BloomHas.j0, if_pos rfl, awake_then]
  by_cases h1 : (F.size : Int) > 4096
  · simp only [if_pos h1]; exact out
  · simp only [if_neg h1]
    by_cases h2 : (key.size : Int) > 300
    · rw [decide_eq_true h2]; exact out
    · rw [decide_eq_false h2]
      refine Ev.step (f := fun k => (freshetref10_Has.f k F key).bind fun t168 => (if (has F key == t168) = true then ((freshetref10_Ones.f k F).bind fun t170 => (if ((ones F : Nat) : Int) = t170 then ((freshetlaw10_awake.f).bind fun t171 => (some t171)) else (some false))) else (some false))) (fun k => ?_) ?_
      · rw [freshetlaw10_BloomHas.j0, if_neg (by simp), check_f, refcheck_f]
        simp only [Option.bind_some, if_true]
        rw [has_f _ _ hK]
        rfl
      · refine Ev.bind (refhas_f F key (by omega)) ?_
        simp only [beq_self_eq_true, if_true]
        refine Ev.bind (refones_f F) ?_
        simp only [if_true, awake_then]
        exact Ev.now _
end Go.Proofs.Ytdgfilbfkoeidaa.Pure
