/- Bytes that are read are what is built of the rows that they tell: for every input. -/
import Derived.Test.YtjgbcaemcohmpaaAwake11
import Derived.Test.YtjgbcaemcohmpaaPBlock3
import Derived.Test.YtjgbcaemcohmpaaPrint21
namespace Go.Proofs.Ytjgbcaemcohmpaa.Pure
open Go.RowKit Txt Print Block Go.Proofs.YtjgbcaemcohmpaaW.PrintWords
theorem fit_rowB {l : List PBlock.Row} (h : ∀ r ∈ l, PBlock.check r = 0) : ∀ x ∈ l.map rowB, 0 ≤ x.f1 ∧ x.f1 < 18446744073709551616 := by
  intro x hx
  obtain ⟨r, hr, rfl⟩ := List.mem_map.1 hx
  have := PBlock.check_ok (h r hr)
  exact ⟨by show (0 : Int) ≤ (r.seq : Int); omega, by show (r.seq : Int) < _; omega⟩
theorem BlockOnly : freshetlaw11_BlockOnly.Pure := by
  intro a0 hs
  have h : Ev (fun k => freshetlaw11_BlockOnly.f k a0) true := by
    unfold freshetlaw11_BlockOnly.f
    by_cases hbig : (a0.size : Int) > 4096
    · refine Ev.congr (fun k => if_pos hbig) ?_
      exact Ev.bind awake11 (Ev.now _)
    refine Ev.congr (fun k => if_neg hbig) ?_
    refine Ev.bind (rows_ev a0 (by omega)) ?_
    obtain ⟨⟨l, e⟩, hr⟩ : ∃ x, PBlock.rows (L a0) = x := ⟨_, rfl⟩
    unfold rowsR
    rw [hr]
    by_cases he : e = 0
    · subst he
      obtain ⟨R, hR0, hR1, hR2, ho, hc, hn, hw, h65, hbody, hres, hsz⟩ := PBlock.rows_good hr
      have hb := PBlock.rows_ok hr
      rw [hR0] at hb
      have h8 : 8 ≤ a0.size := by rw [← L_length]; exact Classical.byContradiction fun g => hsz (.inl (by omega))
      have hlast : ∀ i, i < 4 → bt a0 ((a0.size - 4 + i : Nat) : Int) = (((PBlock.four R).getD i 0).toNat : Int) := by
        intro i hi
        rw [bt_getD, Int.toNat_natCast]
        have e1 : (PBlock.enc R 0 [] l ++ PBlock.fours (PBlock.ends R 0 0 [] l) ++ PBlock.four (PBlock.ends R 0 0 [] l).length).length = a0.size - 4 := by
          have := congrArg List.length hw
          rw [L_length] at this
          unfold PBlock.whole at this
          rw [List.length_append, PBlock.four_length] at this
          omega
        rw [hw]
        unfold PBlock.whole
        rw [List.getD_eq_getElem?_getD, List.getElem?_append_right (by omega), e1, List.getD_eq_getElem?_getD, show a0.size - 4 + i - (a0.size - 4) = i by omega]
      have b0 : bt a0 ((a0.size - 4 : Nat) : Int) = (R : Int) := by
        rw [show a0.size - 4 = a0.size - 4 + 0 from rfl, hlast 0 (by omega)]
        show ((UInt8.ofNat (R % 256)).toNat : Int) = _
        rw [PCode.toNat_ofNat_lt (by omega)]; omega
      have b1 : bt a0 ((a0.size - 3 : Nat) : Int) = 0 := by
        rw [show a0.size - 3 = a0.size - 4 + 1 by omega, hlast 1 (by omega)]
        show ((UInt8.ofNat (R / 256 % 256)).toNat : Int) = _
        rw [PCode.toNat_ofNat_lt (by omega)]; omega
      have b2 : bt a0 ((a0.size - 2 : Nat) : Int) = 0 := by
        rw [show a0.size - 2 = a0.size - 4 + 2 by omega, hlast 2 (by omega)]
        show ((UInt8.ofNat (R / 65536 % 256)).toNat : Int) = _
        rw [PCode.toNat_ofNat_lt (by omega)]; omega
      have b3 : bt a0 ((a0.size - 1 : Nat) : Int) = 0 := by
        rw [show a0.size - 1 = a0.size - 4 + 3 by omega, hlast 3 (by omega)]
        show ((UInt8.ofNat (R / 16777216 % 256)).toNat : Int) = _
        rw [PCode.toNat_ofNat_lt (by omega)]; omega
      have w1 : wrap64 ((a0.size : Int) - 1) = ((a0.size - 1 : Nat) : Int) := by rw [wrap_id (by omega) (by omega)]; omega
      have w2 : wrap64 ((a0.size : Int) - 2) = ((a0.size - 2 : Nat) : Int) := by rw [wrap_id (by omega) (by omega)]; omega
      have w3 : wrap64 ((a0.size : Int) - 3) = ((a0.size - 3 : Nat) : Int) := by rw [wrap_id (by omega) (by omega)]; omega
      have w4 : wrap64 ((a0.size : Int) - 4) = ((a0.size - 4 : Nat) : Int) := by rw [wrap_id (by omega) (by omega)]; omega
      refine Ev.congr (fun k => if_pos rfl) ?_
      refine Ev.congr (fun k => if_neg (by omega)) ?_
      rw [w1, w2, w3, b1, b2, b3]
      refine Ev.congr (fun k => if_pos (by omega)) ?_
      refine Ev.congr (fun k => if_pos (by omega)) ?_
      refine Ev.congr (fun k => if_pos rfl) ?_
      refine Ev.congr (fun k => if_pos (by omega)) ?_
      refine Ev.congr (fun k => if_pos (by omega)) ?_
      refine Ev.congr (fun k => if_pos rfl) ?_
      refine Ev.congr (fun k => if_pos (by omega)) ?_
      refine Ev.congr (fun k => if_pos (by omega)) ?_
      have hbe := block_Build.eq (l.map rowB) (R : Int) ⟨fit_rowB hc, by rw [List.length_map]; omega, by omega, by omega⟩
      rw [rowS_map, hb] at hbe
      have hoe := order_eq (l.map rowB) (fun x hx => ⟨(fit_rowB hc x hx).1, (fit_rowB hc x hx).2⟩) (by rw [List.length_map]; omega)
      rw [rowS_map, ho] at hoe
      refine Ev.step (f := fun k => (some (B (L a0), ((0 : Nat) : Int)) : Option (ByteArray × Int)).bind fun bt256 => (if bt256.1.toList = a0.toList then (if bt256.2 = 0 then ((block_Order.f k (l.map rowB)).bind fun t258 => (if t258 = true then ((freshetlaw11_awake.f k).bind fun t259 => (some t259)) else (some false))) else (some false)) else (some false))) (fun k => ?_) ?_
      · simp only [freshetlaw11_BlockOnly.j0]
        rw [if_neg (by simp), w4, if_pos (by omega), if_pos (by omega), b0, wrap_id (by omega) (by omega), hbe]
      · refine Ev.congr (fun k => if_pos (by show (B (L a0)).toList = a0.toList; rw [B_L])) ?_
        refine Ev.congr (fun k => if_pos rfl) ?_
        refine Ev.bind hoe ?_
        refine Ev.congr (fun k => if_pos rfl) ?_
        exact Ev.bind awake11 (Ev.now _)
    · obtain rfl : l = [] := by
        rcases PBlock.rows_err (L a0) with h | h
        · rw [hr] at h; exact absurd h he
        · rw [hr] at h; simp only [Prod.mk.injEq] at h; exact h.1
      refine Ev.congr (fun k => if_neg (by show ¬ ((e : Nat) : Int) = 0; omega)) ?_
      refine Ev.congr (fun k => if_pos rfl) ?_
      exact Ev.bind awake11 (Ev.now _)
  exact h.rounds
end Go.Proofs.Ytjgbcaemcohmpaa.Pure
