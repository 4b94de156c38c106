/- block's printed whole, parts and Rows are the plain ones. -/
import Derived.Test.YtjgbcaemcohmpaaGBlockB
import Derived.Test.YtjgbcaemcohmpaaGBlockR
import Derived.Test.YtjgbcaemcohmpaaPrint8
import Derived.Test.YtjgbcaemcohmpaaPrint8
import Derived.Test.YtjgbcaemcohmpaaPrint9
import Derived.Laws.BitsAllLaws
namespace Go.Proofs.Ytjgbcaemcohmpaa.Block
open Go.RowKit Aid Txt Print Go.Proofs.YtjgbcaemcohmpaaW.PrintWords
theorem i64_or_nat (a b : Nat) (ha : a < 9223372036854775808) (hb : b < 9223372036854775808) : Go.bits .or .i64 (a : Int) (b : Int) = ((a ||| b : Nat) : Int) := by
  have hx : a ||| b < 2 ^ 63 := Nat.or_lt_two_pow (by omega) (by omega)
  show IntKind.i64.wrap ((BitVec.ofInt 64 (a : Int) ||| BitVec.ofInt 64 (b : Int)).toNat : Int) = _
  rw [BitVec.toNat_or, ofInt_u64 a (by omega), ofInt_u64 b (by omega)]
  exact IntWalk.i64_in _ (by omega)
theorem whole_eq (s : ByteArray) (h : 4 ≤ s.size) : block_whole.f s = some ((PBlock.unfour (L s) : Nat) : Int) := by
  unfold block_whole.f
  rw [if_pos (by omega), if_pos (by omega), if_pos (by omega), if_pos (by omega)]
  have b0 := bt_getD s 0
  have b1 := bt_getD s 1
  have b2 := bt_getD s 2
  have b3 := bt_getD s 3
  rw [b0, b1, b2, b3]
  unfold PBlock.unfour
  rw [show (0 : Int).toNat = 0 from rfl, show (1 : Int).toNat = 1 from rfl, show (2 : Int).toNat = 2 from rfl, show (3 : Int).toNat = 3 from rfl]
  have l0 : ((L s).getD 0 0).toNat < 256 := UInt8.toNat_lt _
  have l1 : ((L s).getD 1 0).toNat < 256 := UInt8.toNat_lt _
  have l2 : ((L s).getD 2 0).toNat < 256 := UInt8.toNat_lt _
  have l3 : ((L s).getD 3 0).toNat < 256 := UInt8.toNat_lt _
  generalize ((L s).getD 0 0).toNat = a at *
  generalize ((L s).getD 1 0).toNat = b at *
  generalize ((L s).getD 2 0).toNat = c at *
  generalize ((L s).getD 3 0).toNat = d at *
  clear b0 b1 b2 b3
  have w0 : wrap64 (a : Int) = (a : Int) := wrap_id (by omega) (by omega)
  have w1 : wrap64 (wrap64 (b : Int) * 256) = ((b * 256 : Nat) : Int) := by rw [wrap_id (x := (b : Int)) (by omega) (by omega), wrap_id (by omega) (by omega)]; omega
  have w2 : wrap64 (wrap64 (c : Int) * 65536) = ((c * 65536 : Nat) : Int) := by rw [wrap_id (x := (c : Int)) (by omega) (by omega), wrap_id (by omega) (by omega)]; omega
  have w3 : wrap64 (wrap64 (d : Int) * 16777216) = ((d * 16777216 : Nat) : Int) := by rw [wrap_id (x := (d : Int)) (by omega) (by omega), wrap_id (by omega) (by omega)]; omega
  rw [w0, w1, w2, w3, i64_or_nat a (b * 256) (by omega) (by omega)]
  rw [Nat.or_comm a, nat_join 8 (b * 256) a (by omega) (by omega)]
  rw [i64_or_nat _ (c * 65536) (by omega) (by omega), Nat.or_comm (b * 256 + a), nat_join 16 (c * 65536) (b * 256 + a) (by omega) (by omega)]
  rw [i64_or_nat _ (d * 16777216) (by omega) (by omega), Nat.or_comm (c * 65536 + (b * 256 + a)), nat_join 24 (d * 16777216) _ (by omega) (by omega)]
  congr 2
  omega
theorem whole_at (s : ByteArray) (i : Nat) (h : i + 4 ≤ s.size) : block_whole.f (s.extract i s.size) = some ((PBlock.unfour ((L s).drop i) : Nat) : Int) := by
  rw [whole_eq _ (by rw [ByteArray.size_extract]; omega), L_drop]
/-- the loop that reads where restarts lie -/
theorem parts_loop (s : ByteArray) (hs : s.size ≤ 65536) (n at_ : Nat) (h : at_ + 4 * n + 8 = s.size) (d : Nat) : ∀ (i : Nat) (xs : List Int), i + d = n → xs = (List.range i).map (fun j => ((PBlock.unfour ((L s).drop (at_ + 4 * j)) : Nat) : Int)) →
    Ev (fun k => block_parts.l0 k s xs (at_ : Int) (n : Int) (i : Int)) (B ((L s).take at_), (List.range n).map (fun j => ((PBlock.unfour ((L s).drop (at_ + 4 * j)) : Nat) : Int)), true) := by
  induction d with
  | zero =>
    intro i xs hi hx
    obtain rfl : i = n := by omega
    subst hx
    refine Ev.step (f := fun _ => some (B ((L s).take at_), (List.range i).map (fun j => ((PBlock.unfour ((L s).drop (at_ + 4 * j)) : Nat) : Int)), true)) (fun k => ?_) (Ev.now _)
    simp only [block_parts.l0]
    rw [if_neg (by omega), if_pos (by omega), if_pos (by omega), Int.toNat_natCast, ← L_take, B_L]
  | succ d ih =>
    intro i xs hi hx
    have hlen : xs.length = i := by rw [hx, List.length_map, List.length_range]
    have e1 : wrap64 (4 * (i : Int)) = ((4 * i : Nat) : Int) := by rw [wrap_id (by omega) (by omega)]; omega
    have e2 : wrap64 ((at_ : Int) + wrap64 (4 * (i : Int))) = ((at_ + 4 * i : Nat) : Int) := by rw [e1, wrap_id (by omega) (by omega)]; omega
    have e3 : wrap64 ((i : Int) + 1) = ((i + 1 : Nat) : Int) := by rw [wrap_id (by omega) (by omega)]; omega
    refine Ev.step (fun k => ?_) (ih (i + 1) (xs ++ [((PBlock.unfour ((L s).drop (at_ + 4 * i)) : Nat) : Int)]) (by omega) (by rw [hx, List.range_succ, List.map_append]; rfl))
    simp only [block_parts.l0]
    rw [if_pos (by omega), e2, if_pos (by omega), if_pos (by omega), Int.toNat_natCast, whole_at s _ (by omega), Option.bind_some, if_pos (by omega), e3]
/-- bytes that may be a block's by their size -/
def Sized (l : List UInt8) : Prop := ¬ (l.length < 8 ∨ 65536 < l.length ∨ (l.length - 8) / 4 < PBlock.unfour (l.drop (l.length - 8)))
theorem parts_bad (s : ByteArray) (hs : s.size ≤ 4611686018427387904) (h : ¬ Sized (L s)) : Ev (fun k => block_parts.f k s) ((⟨#[]⟩ : ByteArray), ([] : List Int), false) := by
  unfold Sized at h
  rw [L_length] at h
  unfold block_parts.f
  by_cases h1 : s.size < 8
  · refine Ev.congr (f := fun k => block_parts.j0 k s ([] : List Int) true) (fun k => by rw [if_pos (by omega)]) ?_
    refine Ev.step (f := fun _ => some ((⟨#[]⟩ : ByteArray), ([] : List Int), false)) (fun k => ?_) (Ev.now _)
    simp only [block_parts.j0, if_true]
  · by_cases h2 : 65536 < s.size
    · refine Ev.congr (f := fun k => block_parts.j0 k s ([] : List Int) true) (fun k => by rw [if_neg (by omega), decide_eq_true (by omega)]) ?_
      refine Ev.step (f := fun _ => some ((⟨#[]⟩ : ByteArray), ([] : List Int), false)) (fun k => ?_) (Ev.now _)
      simp only [block_parts.j0, if_true]
    · have h3 : (s.size - 8) / 4 < PBlock.unfour ((L s).drop (s.size - 8)) := Classical.byContradiction fun g => h (by omega)
      have e1 : wrap64 ((s.size : Int) - 8) = ((s.size - 8 : Nat) : Int) := by rw [wrap_id (by omega) (by omega)]; omega
      have e2 : wrap64 (Int.tdiv ((s.size - 8 : Nat) : Int) 4) = (((s.size - 8) / 4 : Nat) : Int) := by
        rw [Int.tdiv_eq_ediv_of_nonneg (by omega), wrap_id (by omega) (by omega)]; omega
      refine Ev.congr (f := fun k => block_parts.j0 k s ([] : List Int) false) (fun k => by rw [if_neg (by omega), decide_eq_false (by omega)]) ?_
      refine Ev.step (f := fun _ => some ((⟨#[]⟩ : ByteArray), ([] : List Int), false)) (fun k => ?_) (Ev.now _)
      simp only [block_parts.j0]
      rw [if_neg (by simp), e1, e2, if_pos (by omega), if_pos (by omega), Int.toNat_natCast, whole_at s _ (by omega), Option.bind_some, if_pos (by omega)]
theorem parts_good (s : ByteArray) (h : Sized (L s)) : Ev (fun k => block_parts.f k s) (B (PBlock.body (L s)), (PBlock.restarts (L s)).map (fun n : Nat => (n : Int)), true) := by
  unfold Sized at h
  rw [L_length] at h
  have h1 : 8 ≤ s.size := Classical.byContradiction fun g => h (.inl (by omega))
  have h2 : s.size ≤ 65536 := Classical.byContradiction fun g => h (.inr (.inl (by omega)))
  have h3 : ¬ (s.size - 8) / 4 < PBlock.unfour ((L s).drop (s.size - 8)) := fun g => h (.inr (.inr g))
  unfold block_parts.f PBlock.body PBlock.restarts
  rw [L_length]
  have e1 : wrap64 ((s.size : Int) - 8) = ((s.size - 8 : Nat) : Int) := by rw [wrap_id (by omega) (by omega)]; omega
  have e2 : wrap64 (Int.tdiv ((s.size - 8 : Nat) : Int) 4) = (((s.size - 8) / 4 : Nat) : Int) := by
    rw [Int.tdiv_eq_ediv_of_nonneg (by omega), wrap_id (by omega) (by omega)]; omega
  have hw := whole_at s (s.size - 8) (by omega)
  generalize PBlock.unfour ((L s).drop (s.size - 8)) = n at *
  have e3 : wrap64 (((s.size - 8 : Nat) : Int) - wrap64 (4 * (n : Int))) = ((s.size - 8 - 4 * n : Nat) : Int) := by
    rw [wrap_id (x := 4 * (n : Int)) (by omega) (by omega), wrap_id (by omega) (by omega)]; omega
  refine Ev.congr (f := fun k => block_parts.j0 k s ([] : List Int) false) (fun k => by rw [if_neg (by omega), decide_eq_false (by omega)]) ?_
  refine Ev.step (fun k => ?_) (f := fun k => block_parts.l0 k s ([] : List Int) ((s.size - 8 - 4 * n : Nat) : Int) (n : Int) ((0 : Nat) : Int)) ?_
  · simp only [block_parts.j0]
    rw [if_neg (by simp), e1, e2, if_pos (by omega), if_pos (by omega), Int.toNat_natCast, hw, Option.bind_some, if_neg (by omega), e3]
    rfl
  · have := parts_loop s h2 n (s.size - 8 - 4 * n) (by omega) n 0 [] (by omega) rfl
    rw [List.map_map]
    exact this
/-! Rows -/
theorem rowS_rowB (r : PBlock.Row) : rowS (rowB r) = r := by
  cases r; simp [rowS, rowB, L_B]
theorem rowS_map (l : List PBlock.Row) : (l.map rowB).map rowS = l := by
  rw [List.map_map]
  have : rowS ∘ rowB = id := by funext r; exact rowS_rowB r
  rw [this, List.map_id]
/-- what is handed back of rows that were read, behind others -/
def tailOf (s : List UInt8) (xs : List S31) : Option (List PBlock.Row) → List S31 × Int
  | none => ([], 7)
  | some l => if PBlock.build (xs.map rowS ++ l) (PBlock.unfour (s.drop (s.length - 4)) : Int) = (s, 0) then (xs ++ l.map rowB, 0) else ([], 7)
theorem rows_end (s b : ByteArray) (h8 : 8 ≤ s.size) (hs : s.size ≤ 65536) (xs : List S31) (last : ByteArray) (hx : ∀ x ∈ xs, 0 ≤ x.f1 ∧ x.f1 < 18446744073709551616) (hn : xs.length ≤ 1024) (k : Nat) :
    block_Rows.l0 (k + 1) s b xs last (b.size : Int) = some (tailOf (L s) xs (some [])) := by
  have e1 : wrap64 ((s.size : Int) - 4) = ((s.size - 4 : Nat) : Int) := by rw [wrap_id (by omega) (by omega)]; omega
  have hu := PBlock.unfour_lt ((L s).drop (s.size - 4))
  have hb := block_Build.eq xs ((PBlock.unfour ((L s).drop (s.size - 4)) : Nat) : Int) ⟨hx, by omega, by omega, by omega⟩
  have hw := whole_at s (s.size - 4) (by omega)
  unfold tailOf
  rw [L_length]
  simp only [block_Rows.l0]
  rw [if_neg (by omega), e1, if_pos (by omega), if_pos (by omega), Int.toNat_natCast, hw, Option.bind_some, hb, Option.bind_some, List.append_nil, List.map_nil, List.append_nil]
  dsimp only
  generalize PBlock.build (xs.map rowS) ((PBlock.unfour ((L s).drop (s.size - 4)) : Nat) : Int) = r
  obtain ⟨y, e⟩ := r
  dsimp only
  by_cases he : e = 0
  · subst he
    rw [if_pos (show ((0 : Nat) : Int) = 0 from rfl)]
    by_cases hy : y = L s
    · subst hy
      rw [if_pos (by rw [B_L]), if_pos rfl]
    · rw [if_neg (fun h => hy (by rw [L_toList, L_toList, L_B] at h; exact h)), if_neg (by simp [hy])]
  · rw [if_neg (by omega), if_neg (by simp [he])]
theorem rows_loop (s b : ByteArray) (h8 : 8 ≤ s.size) (hs : s.size ≤ 65536) (hb : b.size ≤ 65536) (d : Nat) : ∀ (at_ fuel : Nat) (xs : List S31) (last : ByteArray), b.size - at_ ≤ d → at_ ≤ b.size → b.size - at_ < fuel → (∀ x ∈ xs, 0 ≤ x.f1 ∧ x.f1 < 18446744073709551616) →
    xs.length ≤ 1024 → last.size ≤ 520 * xs.length → Ev (fun k => block_Rows.l0 k s b xs last (at_ : Int)) (tailOf (L s) xs (PBlock.decode fuel ((L b).drop at_) (L last) xs.length)) := by
  induction d with
  | zero =>
    intro at_ fuel xs last hd ha hf hx hn hl
    obtain ⟨fuel, rfl⟩ : ∃ m, fuel = m + 1 := ⟨fuel - 1, by omega⟩
    obtain rfl : at_ = b.size := by omega
    rw [show (L b).drop b.size = [] from List.drop_eq_nil_of_le (by rw [L_length]; omega), PBlock.decode_end]
    exact Ev.step (fun k => rows_end s b h8 hs xs last hx hn k) (Ev.now _)
  | succ d ih =>
    intro at_ fuel xs last hd ha hf hx hn hl
    obtain ⟨fuel, rfl⟩ : ∃ m, fuel = m + 1 := ⟨fuel - 1, by omega⟩
    by_cases h0 : at_ = b.size
    · subst h0
      rw [show (L b).drop b.size = [] from List.drop_eq_nil_of_le (by rw [L_length]; omega), PBlock.decode_end]
      exact Ev.step (fun k => rows_end s b h8 hs xs last hx hn k) (Ev.now _)
    have hlt : at_ < b.size := by omega
    have hne : (L b).drop at_ ≠ [] := by
      intro e
      have := congrArg List.length e
      rw [List.length_drop, L_length, List.length_nil] at this; omega
    have hr := block_read.eq (b.extract at_ b.size) last ⟨by rw [ByteArray.size_extract]; omega, by omega⟩
    rw [L_drop] at hr
    have hgo : ∀ (R : List S31 × Int) (f : Nat → Option (List S31 × Int)), (∀ k, (if (readN (PBlock.read ((L b).drop at_) (L last)) : Int) = 0 then (some (([] : List S31), (7 : Int))) else (if (xs.length : Int) = 1024 then (some (([] : List S31), 7)) else (if xs.length < 2932031007402 then (block_Rows.l0 k s b (xs ++ [readR (PBlock.read ((L b).drop at_) (L last))]) (readR (PBlock.read ((L b).drop at_) (L last))).f0 (wrap64 ((at_ : Int) + (readN (PBlock.read ((L b).drop at_) (L last)) : Int)))) else none))) = f k) → Ev f R → Ev (fun k => block_Rows.l0 k s b xs last (at_ : Int)) R := by
      intro R f hk hE
      refine Ev.step (fun k => ?_) hE
      simp only [block_Rows.l0]
      rw [if_pos (by omega), if_pos (by omega), if_pos (by omega), Int.toNat_natCast, hr, Option.bind_some]
      exact hk k
    cases hrd : PBlock.read ((L b).drop at_) (L last) with
    | none =>
      rw [PBlock.decode_bad hne hrd]
      refine hgo _ (fun _ => some ([], 7)) (fun k => ?_) (Ev.now _)
      rw [hrd]
      rw [if_pos (show ((readN none : Nat) : Int) = 0 from rfl)]
    | some x =>
      obtain ⟨r, n⟩ := x
      have hbd := PBlock.read_bounds hrd
      rw [List.length_drop, L_length, L_length] at hbd
      by_cases h1 : xs.length = 1024
      · rw [PBlock.decode_many hne hrd h1]
        refine hgo _ (fun _ => some ([], 7)) (fun k => ?_) (Ev.now _)
        rw [hrd]
        rw [if_neg (show ¬ (((readN (some (r, n)) : Nat) : Int) = 0) from by show ¬ ((n : Int) = 0); omega), if_pos (by omega)]
      · rw [PBlock.decode_go hne hrd h1, List.drop_drop]
        have hI := ih (at_ + n) fuel (xs ++ [rowB r]) (B r.key) (by omega) (by omega) (by omega) ?_ (by rw [List.length_append, List.length_singleton]; omega) (by rw [size_B, List.length_append, List.length_singleton]; omega)
        · have ew : wrap64 ((at_ : Int) + (n : Int)) = ((at_ + n : Nat) : Int) := by rw [wrap_id (by omega) (by omega)]; omega
          refine hgo _ (fun k => block_Rows.l0 k s b (xs ++ [rowB r]) (B r.key) ((at_ + n : Nat) : Int)) (fun k => ?_) ?_
          · rw [hrd]
            show (if (n : Int) = 0 then _ else (if (xs.length : Int) = 1024 then _ else (if xs.length < _ then block_Rows.l0 k s b (xs ++ [rowB r]) (B r.key) (wrap64 ((at_ : Int) + (n : Int))) else none))) = _
            rw [if_neg (by omega), if_neg (by omega), if_pos (by omega), ew]
          · rw [L_B, List.length_append, List.length_singleton] at hI
            cases hdc : PBlock.decode fuel ((L b).drop (at_ + n)) r.key (xs.length + 1) with
            | none => rw [hdc] at hI; exact hI
            | some l =>
              rw [hdc] at hI
              simp only [tailOf, Option.map_some] at hI ⊢
              rw [List.map_append, List.map_cons, List.map_nil, rowS_rowB, List.append_assoc, List.append_assoc] at hI
              exact hI
        · intro x hx2
          rcases List.mem_append.1 hx2 with h | h
          · exact hx x h
          · rw [List.mem_singleton.1 h]
            exact ⟨by show (0 : Int) ≤ (r.seq : Int); omega, by show (r.seq : Int) < _; omega⟩
/-- Rows, by what it computes -/
def rowsR (s : List UInt8) : List S31 × Int := ((PBlock.rows s).1.map rowB, ((PBlock.rows s).2 : Int))
theorem rows_ev (s : ByteArray) (hs : s.size ≤ 4611686018427387904) : Ev (fun k => block_Rows.f k s) (rowsR (L s)) := by
  unfold block_Rows.f rowsR
  by_cases h : Sized (L s)
  · refine Ev.bind (parts_good s h) ?_
    have h2 := h
    unfold Sized at h2
    rw [L_length] at h2
    have h8 : 8 ≤ s.size := Classical.byContradiction fun g => h2 (.inl (by omega))
    have h65 : s.size ≤ 65536 := Classical.byContradiction fun g => h2 (.inr (.inl (by omega)))
    have hbl : (PBlock.body (L s)).length ≤ s.size := by unfold PBlock.body; rw [List.length_take, L_length]; omega
    have hl := rows_loop s (B (PBlock.body (L s))) h8 h65 (by rw [size_B]; omega) _ 0 (s.size + 1) [] ⟨#[]⟩ (Nat.le_refl _) (by omega) (by rw [size_B]; omega) (by simp) (by simp) (Nat.le_refl 0)
    rw [List.drop_zero, L_B] at hl
    refine Ev.congr (f := fun k => block_Rows.l0 k s (B (PBlock.body (L s))) [] ⟨#[]⟩ ((0 : Nat) : Int)) (fun k => by rw [if_pos rfl]; rfl) ?_
    cases hd : PBlock.decode (s.size + 1) (PBlock.body (L s)) [] 0 with
    | none =>
      have hl2 : Ev (fun k => block_Rows.l0 k s (B (PBlock.body (L s))) [] ⟨#[]⟩ ((0 : Nat) : Int)) (tailOf (L s) [] (PBlock.decode (s.size + 1) (PBlock.body (L s)) [] 0)) := hl
      rw [hd] at hl2
      rw [PBlock.rows_none h (by rw [L_length]; exact hd)]
      exact hl2
    | some l =>
      have hl2 : Ev (fun k => block_Rows.l0 k s (B (PBlock.body (L s))) [] ⟨#[]⟩ ((0 : Nat) : Int)) (tailOf (L s) [] (PBlock.decode (s.size + 1) (PBlock.body (L s)) [] 0)) := hl
      rw [hd] at hl2
      unfold tailOf at hl2
      simp only [List.map_nil, List.nil_append] at hl2
      rw [PBlock.rows_some h (by rw [L_length]; exact hd)]
      by_cases hb : PBlock.build l (PBlock.unfour ((L s).drop ((L s).length - 4)) : Int) = (L s, 0)
      · rw [if_pos hb] at hl2 ⊢
        exact hl2
      · rw [if_neg hb] at hl2 ⊢
        exact hl2
  · have h2 : (L s).length < 8 ∨ 65536 < (L s).length ∨ ((L s).length - 8) / 4 < PBlock.unfour ((L s).drop ((L s).length - 8)) := Classical.byContradiction fun g => h g
    refine Ev.bind (parts_bad s hs h) ?_
    rw [PBlock.rows_bad h2]
    refine Ev.congr (f := fun _ => some ([], 7)) (fun k => by rw [if_neg (by simp)]) (Ev.now _)
end Go.Proofs.Ytjgbcaemcohmpaa.Block
