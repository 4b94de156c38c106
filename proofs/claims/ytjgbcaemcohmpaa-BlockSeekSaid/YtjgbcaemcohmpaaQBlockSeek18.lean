/- Texts of this claim, joined by a program of this session (wip/pack.py): RefRows, PureBlockSeek. -/
import Derived.Test.YtjgbcaemcohmpaaQBlockSeek15
import Derived.Test.YtjgbcaemcohmpaaQBlockSeek17
-- RefRows
namespace Go.Proofs.Ytjgbcaemcohmpaa.Block
open Go.RowKit Aid Txt Print Go.Proofs.YtjgbcaemcohmpaaW.PrintWords
theorem refFour_eq (s : ByteArray) (h : 4 ≤ s.size) : freshetref11_Four.f s = some ((PBlock.unfour (L s) : Nat) : Int) := by
  unfold freshetref11_Four.f
  rw [if_pos (by omega), if_pos (by omega), if_pos (by omega), if_pos (by omega)]
  have b0 := bt_getD s 0
  have b1 := bt_getD s 1
  have b2 := bt_getD s 2
  have b3 := bt_getD s 3
  rw [b0, b1, b2, b3]
  unfold PBlock.unfour
  rw [show (0 : Int).toNat = 0 from rfl, show (1 : Int).toNat = 1 from rfl, show (2 : Int).toNat = 2 from rfl, show (3 : Int).toNat = 3 from rfl]
  have l0 : ((L s).getD 0 0).toNat < 256 := UInt8.toNat_lt _
  have l1 : ((L s).getD 1 0).toNat < 256 := UInt8.toNat_lt _
  have l2 : ((L s).getD 2 0).toNat < 256 := UInt8.toNat_lt _
  have l3 : ((L s).getD 3 0).toNat < 256 := UInt8.toNat_lt _
  generalize ((L s).getD 0 0).toNat = a at *
  generalize ((L s).getD 1 0).toNat = b at *
  generalize ((L s).getD 2 0).toNat = c at *
  generalize ((L s).getD 3 0).toNat = d at *
  clear b0 b1 b2 b3
  have w : ∀ x : Int, -9223372036854775808 ≤ x → x ≤ 9223372036854775807 → wrap64 x = x := fun x h0 h1 => wrap_id h0 h1
  rw [w (a : Int) (by omega) (by omega), w (b : Int) (by omega) (by omega), w (256 * (b : Int)) (by omega) (by omega), w ((a : Int) + 256 * (b : Int)) (by omega) (by omega), w (c : Int) (by omega) (by omega), w (65536 * (c : Int)) (by omega) (by omega),
    w ((a : Int) + 256 * (b : Int) + 65536 * (c : Int)) (by omega) (by omega), w (d : Int) (by omega) (by omega), w (16777216 * (d : Int)) (by omega) (by omega), w _ (by omega) (by omega)]
  congr 1
theorem refFour_at (s : ByteArray) (i : Nat) (h : i + 4 ≤ s.size) : freshetref11_Four.f (s.extract i s.size) = some ((PBlock.unfour ((L s).drop i) : Nat) : Int) := by
  rw [refFour_eq _ (by rw [ByteArray.size_extract]; omega), L_drop]
theorem refrows_end (s b : ByteArray) (h8 : 8 ≤ s.size) (hs : s.size ≤ 65536) (xs : List S31) (last : ByteArray) (hx : ∀ x ∈ xs, 0 ≤ x.f1 ∧ x.f1 < 18446744073709551616) (hn : xs.length ≤ 1024) :
    Ev (fun k => freshetref11_Rows.l0 k s b xs last (b.size : Int)) (tailOf (L s) xs (some [])) := by
  have e1 : wrap64 ((s.size : Int) - 4) = ((s.size - 4 : Nat) : Int) := by rw [wrap_id (by omega) (by omega)]; omega
  have hb := refbuild_ev xs (fun x h => ⟨(hx x h).1, (hx x h).2⟩) (by omega) ((PBlock.unfour ((L s).drop (s.size - 4)) : Nat) : Int)
  have hw := refFour_at s (s.size - 4) (by omega)
  have t1 : ¬ (b.size : Int) < (b.size : Int) := by omega
  have t2 : (0 : Int) ≤ ((s.size - 4 : Nat) : Int) := by omega
  have t3 : ((s.size - 4 : Nat) : Int) ≤ (s.size : Int) := by omega
  refine Ev.step (f := fun k => (freshetref11_Build.f k xs ((PBlock.unfour ((L s).drop (s.size - 4)) : Nat) : Int)).bind fun bt237 => (if bt237.2 = 0 then (if bt237.1.toList = s.toList then (some (xs, 0)) else (some (([] : List S31), 7))) else (some (([] : List S31), 7)))) (fun k => ?_) ?_
  · simp only [freshetref11_Rows.l0]
    rw [if_neg t1, e1, if_pos t2, if_pos t3, Int.toNat_natCast, hw, Option.bind_some]
  · refine Ev.bind hb ?_
    have ht : tailOf (L s) xs (some []) = if PBlock.build (xs.map rowS) ((PBlock.unfour ((L s).drop (s.size - 4)) : Nat) : Int) = (L s, 0) then (xs, 0) else ([], 7) := by
      unfold tailOf; simp only [L_length, List.map_nil, List.append_nil]
    rw [ht]
    generalize PBlock.build (xs.map rowS) ((PBlock.unfour ((L s).drop (s.size - 4)) : Nat) : Int) = r
    obtain ⟨y, e⟩ := r
    dsimp only
    by_cases he : e = 0
    · subst he
      refine Ev.congr (fun k => if_pos (show ((0 : Nat) : Int) = 0 from rfl)) ?_
      by_cases hy : y = L s
      · have hR : (if (y, (0 : Nat)) = (L s, 0) then (xs, (0 : Int)) else ([], 7)) = (xs, 0) := if_pos (by rw [hy])
        have hS : (B y).toList = s.toList := by rw [hy, B_L]
        rw [hR]
        exact Ev.congr (fun k => if_pos hS) (Ev.now _)
      · have hR : (if (y, (0 : Nat)) = (L s, 0) then (xs, (0 : Int)) else ([], 7)) = ([], 7) := if_neg (fun h => hy (Prod.mk.inj h).1)
        have hS : ¬ (B y).toList = s.toList := fun h => hy (by rw [L_toList, L_toList, L_B] at h; exact h)
        rw [hR]
        exact Ev.congr (fun k => if_neg hS) (Ev.now _)
    · have hR : (if (y, e) = (L s, 0) then (xs, (0 : Int)) else ([], 7)) = ([], 7) := if_neg (fun h => he (Prod.mk.inj h).2)
      have hS : ¬ ((e : Nat) : Int) = 0 := by omega
      rw [hR]
      exact Ev.congr (fun k => if_neg hS) (Ev.now _)
theorem refrows_loop (s b : ByteArray) (h8 : 8 ≤ s.size) (hs : s.size ≤ 65536) (hb : b.size ≤ 65536) (d : Nat) : ∀ (at_ fuel : Nat) (xs : List S31) (last : ByteArray), b.size - at_ ≤ d → at_ ≤ b.size → b.size - at_ < fuel → (∀ x ∈ xs, 0 ≤ x.f1 ∧ x.f1 < 18446744073709551616) →
    xs.length ≤ 1024 → last.size ≤ 520 * xs.length → Ev (fun k => freshetref11_Rows.l0 k s b xs last (at_ : Int)) (tailOf (L s) xs (PBlock.decode fuel ((L b).drop at_) (L last) xs.length)) := by
  induction d with
  | zero =>
    intro at_ fuel xs last hd ha hf hx hn hl
    obtain ⟨fuel, rfl⟩ : ∃ m, fuel = m + 1 := ⟨fuel - 1, by omega⟩
    obtain rfl : at_ = b.size := by omega
    rw [show (L b).drop b.size = [] from List.drop_eq_nil_of_le (by rw [L_length]; omega), PBlock.decode_end]
    exact refrows_end s b h8 hs xs last hx hn
  | succ d ih =>
    intro at_ fuel xs last hd ha hf hx hn hl
    obtain ⟨fuel, rfl⟩ : ∃ m, fuel = m + 1 := ⟨fuel - 1, by omega⟩
    by_cases h0 : at_ = b.size
    · subst h0
      rw [show (L b).drop b.size = [] from List.drop_eq_nil_of_le (by rw [L_length]; omega), PBlock.decode_end]
      exact refrows_end s b h8 hs xs last hx hn
    have hlt : at_ < b.size := by omega
    have hne : (L b).drop at_ ≠ [] := by
      intro e
      have := congrArg List.length e
      rw [List.length_drop, L_length, List.length_nil] at this; omega
    have hr := freshetref11_read.eq (b.extract at_ b.size) last ⟨by rw [ByteArray.size_extract]; omega, by omega⟩
    rw [L_drop] at hr
    have hgo : ∀ (R : List S31 × Int) (f : Nat → Option (List S31 × Int)), (∀ k, (if (readN (PBlock.read ((L b).drop at_) (L last)) : Int) = 0 then (some (([] : List S31), (7 : Int))) else (if (xs.length : Int) = 1024 then (some (([] : List S31), 7)) else (if xs.length < 2932031007402 then (freshetref11_Rows.l0 k s b (xs ++ [readR (PBlock.read ((L b).drop at_) (L last))]) (readR (PBlock.read ((L b).drop at_) (L last))).f0 (wrap64 ((at_ : Int) + (readN (PBlock.read ((L b).drop at_) (L last)) : Int)))) else none))) = f k) → Ev f R → Ev (fun k => freshetref11_Rows.l0 k s b xs last (at_ : Int)) R := by
      intro R f hk hE
      refine Ev.step (fun k => ?_) hE
      simp only [freshetref11_Rows.l0]
      rw [if_pos (by omega), if_pos (by omega), if_pos (by omega), Int.toNat_natCast, hr, Option.bind_some]
      exact hk k
    cases hrd : PBlock.read ((L b).drop at_) (L last) with
    | none =>
      rw [PBlock.decode_bad hne hrd]
      refine hgo _ (fun _ => some ([], 7)) (fun k => ?_) (Ev.now _)
      rw [hrd]
      rw [if_pos (show ((readN none : Nat) : Int) = 0 from rfl)]
    | some x =>
      obtain ⟨r, n⟩ := x
      have hbd := PBlock.read_bounds hrd
      rw [List.length_drop, L_length, L_length] at hbd
      by_cases h1 : xs.length = 1024
      · rw [PBlock.decode_many hne hrd h1]
        refine hgo _ (fun _ => some ([], 7)) (fun k => ?_) (Ev.now _)
        rw [hrd]
        rw [if_neg (show ¬ (((readN (some (r, n)) : Nat) : Int) = 0) from by show ¬ ((n : Int) = 0); omega), if_pos (by omega)]
      · rw [PBlock.decode_go hne hrd h1, List.drop_drop]
        have hI := ih (at_ + n) fuel (xs ++ [rowB r]) (B r.key) (by omega) (by omega) (by omega) ?_ (by rw [List.length_append, List.length_singleton]; omega) (by rw [size_B, List.length_append, List.length_singleton]; omega)
        · have ew : wrap64 ((at_ : Int) + (n : Int)) = ((at_ + n : Nat) : Int) := by rw [wrap_id (by omega) (by omega)]; omega
          refine hgo _ (fun k => freshetref11_Rows.l0 k s b (xs ++ [rowB r]) (B r.key) ((at_ + n : Nat) : Int)) (fun k => ?_) ?_
          · rw [hrd]
            show (if (n : Int) = 0 then _ else (if (xs.length : Int) = 1024 then _ else (if xs.length < _ then freshetref11_Rows.l0 k s b (xs ++ [rowB r]) (B r.key) (wrap64 ((at_ : Int) + (n : Int))) else none))) = _
            rw [if_neg (by omega), if_neg (by omega), if_pos (by omega), ew]
          · rw [L_B, List.length_append, List.length_singleton] at hI
            cases hdc : PBlock.decode fuel ((L b).drop (at_ + n)) r.key (xs.length + 1) with
            | none => rw [hdc] at hI; exact hI
            | some l =>
              rw [hdc] at hI
              simp only [tailOf, Option.map_some] at hI ⊢
              rw [List.map_append, List.map_cons, List.map_nil, rowS_rowB, List.append_assoc, List.append_assoc] at hI
              exact hI
        · intro x hx2
          rcases List.mem_append.1 hx2 with h | h
          · exact hx x h
          · rw [List.mem_singleton.1 h]
            exact ⟨by show (0 : Int) ≤ (r.seq : Int); omega, by show (r.seq : Int) < _; omega⟩
theorem refrows_ev (s : ByteArray) (hs : s.size ≤ 4611686018427387904) : Ev (fun k => freshetref11_Rows.f k s) (rowsR (L s)) := by
  have hbad : Ev (fun k => freshetref11_Rows.j0 k s true) (([] : List S31), (7 : Int)) := by
    refine Ev.step (f := fun _ => some (([] : List S31), (7 : Int))) (fun k => ?_) (Ev.now _)
    simp only [freshetref11_Rows.j0]
    rw [if_pos trivial]
  unfold freshetref11_Rows.f rowsR
  by_cases c1 : s.size < 8
  · rw [PBlock.rows_bad (.inl (by rw [L_length]; exact c1))]
    exact Ev.congr (fun k => if_pos (by omega)) hbad
  refine Ev.congr (fun k => if_neg (by omega)) ?_
  by_cases c2 : 65536 < s.size
  · rw [PBlock.rows_bad (.inr (.inl (by rw [L_length]; exact c2))), decide_eq_true (show (s.size : Int) > 65536 by omega)]
    exact hbad
  rw [decide_eq_false (show ¬ (s.size : Int) > 65536 by omega)]
  have e1 : wrap64 ((s.size : Int) - 8) = ((s.size - 8 : Nat) : Int) := by rw [wrap_id (by omega) (by omega)]; omega
  have e2 : wrap64 (Int.tdiv ((s.size - 8 : Nat) : Int) 4) = (((s.size - 8) / 4 : Nat) : Int) := by
    rw [Int.tdiv_eq_ediv_of_nonneg (by omega), wrap_id (by omega) (by omega)]; omega
  have hw := refFour_at s (s.size - 8) (by omega)
  have t1 : (0 : Int) ≤ ((s.size - 8 : Nat) : Int) := by omega
  have t2 : ((s.size - 8 : Nat) : Int) ≤ (s.size : Int) := by omega
  by_cases c3 : (s.size - 8) / 4 < PBlock.unfour ((L s).drop (s.size - 8))
  · rw [PBlock.rows_bad (.inr (.inr (by rw [L_length]; exact c3)))]
    refine Ev.step (f := fun _ => some (([] : List S31), (7 : Int))) (fun k => ?_) (Ev.now _)
    simp only [freshetref11_Rows.j0]
    rw [if_neg (by simp), e1, e2, if_pos t1, if_pos t2, Int.toNat_natCast, hw, Option.bind_some, if_pos (by omega)]
  · have hsz : ¬ ((L s).length < 8 ∨ 65536 < (L s).length ∨ ((L s).length - 8) / 4 < PBlock.unfour ((L s).drop ((L s).length - 8))) := by rw [L_length]; omega
    have hbody : PBlock.body (L s) = (L s).take (s.size - 8 - 4 * PBlock.unfour ((L s).drop (s.size - 8))) := by unfold PBlock.body; rw [L_length]
    have hext : s.extract 0 (s.size - 8 - 4 * PBlock.unfour ((L s).drop (s.size - 8))) = B (PBlock.body (L s)) := by apply L_inj; rw [L_take, L_B, hbody]
    have hbl : (PBlock.body (L s)).length ≤ s.size := by unfold PBlock.body; rw [List.length_take, L_length]; omega
    have e3 : wrap64 (((s.size - 8 : Nat) : Int) - wrap64 (4 * ((PBlock.unfour ((L s).drop (s.size - 8)) : Nat) : Int))) = ((s.size - 8 - 4 * PBlock.unfour ((L s).drop (s.size - 8)) : Nat) : Int) := by
      rw [wrap_id (x := 4 * ((PBlock.unfour ((L s).drop (s.size - 8)) : Nat) : Int)) (by omega) (by omega), wrap_id (by omega) (by omega)]; omega
    have t3 : ¬ ((PBlock.unfour ((L s).drop (s.size - 8)) : Nat) : Int) > (((s.size - 8) / 4 : Nat) : Int) := by omega
    have t4 : (0 : Int) ≤ ((s.size - 8 - 4 * PBlock.unfour ((L s).drop (s.size - 8)) : Nat) : Int) := by omega
    have t5 : ((s.size - 8 - 4 * PBlock.unfour ((L s).drop (s.size - 8)) : Nat) : Int) ≤ (s.size : Int) := by omega
    refine Ev.step (f := fun k => freshetref11_Rows.l0 k s (B (PBlock.body (L s))) [] ⟨#[]⟩ ((0 : Nat) : Int)) (fun k => ?_) ?_
    · simp only [freshetref11_Rows.j0]
      rw [if_neg (by simp), e1, e2, if_pos t1, if_pos t2, Int.toNat_natCast, hw, Option.bind_some, if_neg t3, e3, if_pos t4, if_pos t5, Int.toNat_natCast, hext]
      rfl
    · have hl := refrows_loop s (B (PBlock.body (L s))) (by omega) (by omega) (by rw [size_B]; omega) _ 0 (s.size + 1) [] ⟨#[]⟩ (Nat.le_refl _) (by omega) (by rw [size_B]; omega) (by simp) (by simp) (Nat.le_refl 0)
      rw [List.drop_zero, L_B] at hl
      cases hd : PBlock.decode (s.size + 1) (PBlock.body (L s)) [] 0 with
      | none =>
        have hl2 : Ev (fun k => freshetref11_Rows.l0 k s (B (PBlock.body (L s))) [] ⟨#[]⟩ ((0 : Nat) : Int)) (tailOf (L s) [] (PBlock.decode (s.size + 1) (PBlock.body (L s)) [] 0)) := hl
        rw [hd] at hl2
        rw [PBlock.rows_none hsz (by rw [L_length]; exact hd)]
        exact hl2
      | some l =>
        have hl2 : Ev (fun k => freshetref11_Rows.l0 k s (B (PBlock.body (L s))) [] ⟨#[]⟩ ((0 : Nat) : Int)) (tailOf (L s) [] (PBlock.decode (s.size + 1) (PBlock.body (L s)) [] 0)) := hl
        rw [hd] at hl2
        unfold tailOf at hl2
        simp only [List.map_nil, List.nil_append] at hl2
        rw [PBlock.rows_some hsz (by rw [L_length]; exact hd)]
        by_cases hb : PBlock.build l (PBlock.unfour ((L s).drop ((L s).length - 4)) : Int) = (L s, 0)
        · rw [if_pos hb] at hl2 ⊢
          exact hl2
        · rw [if_neg hb] at hl2 ⊢
          exact hl2
theorem refplace_ev (l : List S31) (hl : ∀ x ∈ l, Fit x) (hs : l.length ≤ 9223372036854775806) (key : ByteArray) (q : Int) (h0 : 0 ≤ q) (d : Nat) : ∀ i : Nat, l.length - i ≤ d → i ≤ l.length →
    Ev (fun k => freshetref08_Place.l0 k l key q (i : Int)) ((i + PBlock.place ((l.drop i).map rowS) (L key) q.toNat : Nat) : Int) := by
  have hend : Ev (fun k => freshetref08_Place.l0 k l key q (l.length : Int)) ((l.length + PBlock.place ((l.drop l.length).map rowS) (L key) q.toNat : Nat) : Int) := by
    rw [List.drop_length]
    refine Ev.step (f := fun _ => some (l.length : Int)) (fun k => ?_) (Ev.now _)
    simp only [freshetref08_Place.l0]
    rw [if_neg (by omega)]
  induction d with
  | zero =>
    intro i hd hi
    obtain rfl : i = l.length := by omega
    exact hend
  | succ d ih =>
    intro i hd hi
    by_cases hlt : i < l.length
    case neg =>
      obtain rfl : i = l.length := by omega
      exact hend
    have t1 : (i : Int) < (l.length : Int) := by omega
    have t3 : (0 : Int) ≤ (i : Int) := by omega
    have hn1 := Lib.hid (show wrap64 ((i : Int) + 1) = ((i + 1 : Nat) : Int) by rw [wrap_id (by omega) (by omega)]; omega)
    have ha := refahead_eq l[i] (hl _ (List.getElem_mem _)) key q h0
    have e1 : (l.drop i).map rowS = rowS l[i] :: ((l.drop (i + 1)).map rowS) := by rw [List.drop_eq_getElem_cons hlt]; rfl
    rw [e1, PBlock.place]
    cases hc : PBlock.ahead (rowS l[i]) (L key) q.toNat with
    | true =>
      rw [if_pos rfl, show i + (PBlock.place ((l.drop (i + 1)).map rowS) (L key) q.toNat + 1) = i + 1 + PBlock.place ((l.drop (i + 1)).map rowS) (L key) q.toNat by omega]
      refine Ev.step (fun k => ?_) (ih (i + 1) (by omega) (by omega))
      simp only [freshetref08_Place.l0]
      rw [if_pos t1, if_pos t3, at_S31 l i hlt, ha, hc, Option.bind_some, if_pos rfl, hn1.out]
    | false =>
      rw [if_neg (by simp), Nat.add_zero]
      refine Ev.step (f := fun _ => some (i : Int)) (fun k => ?_) (Ev.now _)
      simp only [freshetref08_Place.l0]
      rw [if_pos t1, if_pos t3, at_S31 l i hlt, ha, hc, Option.bind_some, if_neg (by simp)]
theorem fit_rows {s : List UInt8} {l : List PBlock.Row} {e : Nat} (h : PBlock.rows s = (l, e)) : ∀ x ∈ l.map rowB, Fit x := by
  intro x hx
  obtain ⟨r, hr, rfl⟩ := List.mem_map.1 hx
  rcases PBlock.rows_err s with h0 | h0
  · rw [h] at h0
    dsimp only at h0
    subst h0
    obtain ⟨_, _, _, _, _, hc, _⟩ := PBlock.rows_good h
    have := PBlock.check_ok (hc r hr)
    exact ⟨by show (0 : Int) ≤ (r.seq : Int); omega, by show (r.seq : Int) < _; omega⟩
  · rw [h] at h0
    simp only [Prod.mk.injEq] at h0
    rw [h0.1] at hr
    cases hr
theorem rows_short {s : List UInt8} {l : List PBlock.Row} {e : Nat} (h : PBlock.rows s = (l, e)) : l.length ≤ 1024 := by
  rcases PBlock.rows_err s with h0 | h0
  · rw [h] at h0
    dsimp only at h0
    subst h0
    obtain ⟨_, _, _, _, _, _, hn, _⟩ := PBlock.rows_good h
    exact hn
  · rw [h] at h0
    simp only [Prod.mk.injEq] at h0
    rw [h0.1]
    simp
theorem refseek_ev (s key : ByteArray) (hs : s.size ≤ 4611686018427387904) (q : Int) (h0 : 0 ≤ q) : Ev (fun k => freshetref11_Seek.f k s key q) ((PBlock.seek (L s) (L key) q.toNat).1.map rowB, ((PBlock.seek (L s) (L key) q.toNat).2 : Int)) := by
  unfold freshetref11_Seek.f
  refine Ev.bind (refrows_ev s hs) ?_
  unfold rowsR
  obtain ⟨⟨l, e⟩, hr⟩ : ∃ x, PBlock.rows (L s) = x := ⟨_, rfl⟩
  have hf := fit_rows hr
  have hn := rows_short hr
  rw [hr]
  by_cases he : e = 0
  · subst he
    rw [PBlock.seek_ok hr]
    have hp := refplace_ev (l.map rowB) hf (by rw [List.length_map]; omega) key q h0 _ 0 (Nat.le_refl _) (by omega)
    rw [List.drop_zero, rowS_map, Nat.zero_add] at hp
    have hle := PBlock.place_le l (L key) q.toNat
    refine Ev.congr (fun k => if_pos (show ((0 : Nat) : Int) = 0 from rfl)) ?_
    refine Ev.bind hp ?_
    have t1 : (0 : Int) ≤ ((PBlock.place l (L key) q.toNat : Nat) : Int) := by omega
    have t2 : ((PBlock.place l (L key) q.toNat : Nat) : Int) ≤ ((l.map rowB).length : Int) := by rw [List.length_map]; omega
    refine Ev.congr (fun k => if_pos t1) ?_
    refine Ev.congr (fun k => if_pos t2) ?_
    rw [Int.toNat_natCast, List.map_drop]
    exact Ev.now _
  · rw [PBlock.seek_err (by rw [hr]; exact he), hr]
    exact Ev.congr (fun k => if_neg (show ¬ ((e : Nat) : Int) = 0 by omega)) (Ev.now _)
end Go.Proofs.Ytjgbcaemcohmpaa.Block
-- PureBlockSeek
namespace Go.Proofs.Ytjgbcaemcohmpaa.Pure
open Go.RowKit Txt Print Block Go.Proofs.YtjgbcaemcohmpaaW.PrintWords
theorem seek_short (s k : List UInt8) (n : Nat) : (PBlock.seek s k n).1.length ≤ 1024 := by
  have hn := rows_short (s := s) (l := (PBlock.rows s).1) (e := (PBlock.rows s).2) rfl
  unfold PBlock.seek
  split
  · simp
  · show ((PBlock.rows s).1.drop _).length ≤ 1024
    rw [List.length_drop]; omega
theorem BlockSeek : freshetlaw11_BlockSeek.Pure := by
  intro a0 a1 a2 hs hs1 w2
  have h0 : 0 ≤ a2 := by obtain ⟨n, rfl, _⟩ := u64_of w2; omega
  have h : Ev (fun k => freshetlaw11_BlockSeek.f k a0 a1 a2) true := by
    unfold freshetlaw11_BlockSeek.f
    by_cases hbig : (a0.size : Int) > 4096
    · refine Ev.congr (fun k => if_pos hbig) ?_
      exact Ev.bind awake11 (Ev.now _)
    refine Ev.congr (fun k => if_neg hbig) ?_
    have he := block_Seek.eq a0 a1 a2 ⟨by omega, h0⟩
    refine Ev.bind (f := fun k bt => _) (Ev.congr (fun _ => he) (Ev.now _)) ?_
    refine Ev.bind (refseek_ev a0 a1 (by omega) a2 h0) ?_
    have hn := seek_short (L a0) (L a1) a2.toNat
    have hsame : Ev (fun k => freshetref06_SameRows.f k ((PBlock.seek (L a0) (L a1) a2.toNat).1.map rowB) ((PBlock.seek (L a0) (L a1) a2.toNat).1.map rowB)) true := by
      unfold freshetref06_SameRows.f
      refine Ev.congr (fun k => if_pos rfl) ?_
      exact same_ev _ (by rw [List.length_map]; omega) _ 0 (Nat.le_refl _)
    refine Ev.bind hsame ?_
    refine Ev.congr (fun k => if_pos rfl) ?_
    refine Ev.congr (fun k => if_pos rfl) ?_
    exact Ev.bind awake11 (Ev.now _)
  exact h.rounds
end Go.Proofs.Ytjgbcaemcohmpaa.Pure
