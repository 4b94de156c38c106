/- The walk of code.Text. -/
import Derived.Test.YtjlpliapofndcaaCodeT
namespace Go.Proofs.Ytjlpliapofndcaa.CodeW
open Go.RowKit Aid Go.Proofs.YtjlpliapofndcaaW.PrintWords
/-- what has been read so far, and what the rest gives -/
def combT (O : List UInt8) (i : Nat) (r : List UInt8 × Nat × Nat) : List UInt8 × Nat × Nat := if r.2.2 = 0 then (O ++ r.1, i + r.2.1, 0) else ([], 0, r.2.2)
theorem combT_start (l : List UInt8) : PCode.text l = combT [] 0 (PCode.text (l.drop 0)) := by
  rw [List.drop_zero]
  unfold combT
  rcases PCode.text_err l.length l (Nat.le_refl _) with h | h | h
  · rw [if_pos h]
    simp only [Nat.zero_add, List.nil_append]
    exact Prod.ext rfl (Prod.ext rfl h)
  · rw [h]; rfl
  · rw [h]; rfl
theorem combT_short {l O : List UInt8} {i : Nat} (h : l.length = i) : combT O i (PCode.text (l.drop i)) = ([], 0, 6) := by
  rw [List.drop_of_length_le (by omega)]; rfl
theorem combT_go {l O : List UInt8} {i : Nat} {c : UInt8} (h : l[i]? = some c) (h0 : c ≠ 0) : combT O i (PCode.text (l.drop i)) = combT (O ++ [c]) (i + 1) (PCode.text (l.drop (i + 1))) := by
  rw [drop_cons h, PCode.text_ne h0]
  unfold combT
  split
  · rw [if_pos rfl]
    simp only [Prod.mk.injEq, and_true, List.append_assoc, List.singleton_append]
    exact ⟨trivial, by omega⟩
  · rfl
theorem combT_end {l O : List UInt8} {i : Nat} (h : l[i]? = some 0) (h1 : l.length = i + 1) : combT O i (PCode.text (l.drop i)) = ([], 0, 6) := by
  rw [drop_cons h, List.drop_of_length_le (by omega)]; rfl
theorem text_two (d : UInt8) (m : List UInt8) : PCode.text (0 :: d :: m) = if d = 1 then ([], 2, 0) else if d ≠ 255 then ([], 0, 7) else (if (PCode.text m).2.2 = 0 then (0 :: (PCode.text m).1, (PCode.text m).2.1 + 2, 0) else ([], 0, (PCode.text m).2.2)) := by
  rw [PCode.text.eq_def]
  simp
theorem combT_ret {l O : List UInt8} {i : Nat} (h : l[i]? = some 0) (h1 : l[i + 1]? = some 1) : combT O i (PCode.text (l.drop i)) = (O, i + 2, 0) := by
  rw [drop_cons h, drop_cons h1, text_two, if_pos rfl]
  unfold combT
  rw [if_pos rfl, List.append_nil]
theorem combT_form {l O : List UInt8} {i : Nat} {d : UInt8} (h : l[i]? = some 0) (h1 : l[i + 1]? = some d) (h2 : d ≠ 1) (h3 : d ≠ 255) : combT O i (PCode.text (l.drop i)) = ([], 0, 7) := by
  rw [drop_cons h, drop_cons h1, text_two, if_neg h2, if_pos h3]; rfl
theorem combT_two {l O : List UInt8} {i : Nat} (h : l[i]? = some 0) (h1 : l[i + 1]? = some 255) : combT O i (PCode.text (l.drop i)) = combT (O ++ [0]) (i + 2) (PCode.text (l.drop (i + 2))) := by
  rw [drop_cons h, drop_cons h1, text_two, if_neg (by decide), if_neg (by decide), show i + 1 + 1 = i + 2 from rfl]
  unfold combT
  split
  · rw [if_pos rfl]
    simp only [Prod.mk.injEq, and_true, List.append_assoc, List.singleton_append]
    exact ⟨trivial, by omega⟩
  · rfl
/-- how far a cursor has come -/
def posOf (w : World) (g : Nat) : Nat := match w.cell? ⟨g, 1, none⟩ with
  | some v => (intOf v).toNat
  | none => 0
theorem posOf_cur {w : World} {g : Nat} {s : ByteArray} {i : Nat} (h : Cur w g s i) : posOf w g = i := by
  have := h.cell 1
  unfold posOf
  rw [this]
  simp [intOf]
set_option maxRecDepth 100000 in
set_option maxHeartbeats 8000000 in
theorem text_any (s : ByteArray) (hs : s.size ≤ 140737488355326) (w : World) :
    Calls Try.prog 32 #[.string s] w fun e w' => e = .returned (.tuple #[.string ⟨(PCode.text s.data.toList).1.toArray⟩, .int .i64 ((PCode.text s.data.toList).2.1 : Int), .int .i64 ((PCode.text s.data.toList).2.2 : Int)]) ∧ Below w.heap.size w w' := by
  obtain ⟨i0, hi, hz0, hz1, hz2⟩ := info_parts infoU8
  go_enter Try.func32, Try.ntmps32
  go_wp2
  refine wp_scope_jumps 0 (fun a' w' => ∃ m : Nat, (∃ (u0 u1 u2 u3 u5 u6 u7 u8 u9 u10 u11 u12 u13 u14 u15 u16 u17 u18 u19 u20 u21 u22 u23 u24 u25 u26 u27 u28 u29 u30 u31 u32 u33 u34 u35 u36 u37 u38 u39 u40 u41 u42 u43 u44 : Value), a' = { tmps := #[u0, u1, u2, u3, .int .i64 (m : Int), u5, u6, u7, u8, u9, u10, u11, u12, u13, u14, u15, u16, u17, u18, u19, u20, u21, u22, u23, u24, u25, u26, u27, u28, u29, u30, u31, u32, u33, u34, u35, u36, u37, u38, u39, u40, u41, u42, u43, u44], defers := [] }) ∧ Hid (PCode.text s.data.toList = ([], 0, m)) ∧ Below w.heap.size w w') (fun _ _ => 0) rfl ?first ?pass
  case pass =>
    rintro a' w' ⟨m, ⟨u0, u1, u2, u3, u5, u6, u7, u8, u9, u10, u11, u12, u13, u14, u15, u16, u17, u18, u19, u20, u21, u22, u23, u24, u25, u26, u27, u28, u29, u30, u31, u32, u33, u34, u35, u36, u37, u38, u39, u40, u41, u42, u43, u44, rfl⟩, HZ, hB⟩
    go_wp2
    simp only [Exit.jump]
    go_ret3
    refine ⟨?_, hB⟩
    rw [HZ.out]
    rfl
  case first =>
  go_wp2
  go_loopw [7, 8, 9] (fun v7 _ _ wr => ∃ (i : Nat) (O : List UInt8), i ≤ s.size ∧ O.length ≤ i ∧ wr.ownsRow w.heap.size 5 1 v7 O.length (cellsOf O) ∧ Hid (PCode.text s.data.toList = combT O i (PCode.text (s.data.toList.drop i))) ∧ Cur wr w.heap.size s i ∧ Below w.heap.size w wr) (fun _ _ _ wr => s.size - posOf wr w.heap.size)
  case atStart => exact ⟨0, [], by omega, by simp, World.ownsRow_nil _ _ _ _, Lib.hid (combT_start _), Blk.new _ _ _, (Below.refl _ _).alloc (Nat.le_refl _) _⟩
  case round =>
    obtain ⟨i, O, hi', hO, hown, HR, hc, hB⟩ := hrel
    have HP := Lib.hid (posOf_cur hc)
    by_cases hend : i = s.size
    · subst hend
      have hu : PCode.text s.data.toList = ([], 0, 6) := HR.out.trans (combT_short (by simp))
      have HU := Lib.hid hu
      clear hu
      go_wp2_with fail
      refine (next_none s _ _ hc).mono ?_
      rintro e w1 ⟨rfl, hc1, hg1⟩
      go_wp2
      go_step3
      exact And.intro rfl ⟨6, ⟨_, _, _, _, _, _, _, _, _, _, _, _, _, _, _, _, _, _, _, _, _, _, _, _, _, _, _, _, _, _, _, _, _, _, _, _, _, _, _, _, _, _, _, _, rfl⟩, HU, below_of_only hB (Nat.le_refl _) hg1⟩
    · have hlt : i < s.data.toList.length := by simp; omega
      obtain ⟨c, hcv⟩ : ∃ c, s.data.toList[i]? = some c := ⟨_, List.getElem?_eq_getElem hlt⟩
      have hc256 := c.toNat_lt
      have hne := own_blk_ne hown hc (by decide)
      by_cases hz : c = 0
      · have hz' : ((c.toNat : Int) == 0) = true := by rw [hz]; rfl
        rw [hz] at hcv
        have HC0 := Lib.hid hcv
        rw [← hz] at hcv
        have HC := Lib.hid hcv
        clear hcv hz
        by_cases hend2 : i + 1 = s.size
        · have hu : PCode.text s.data.toList = ([], 0, 6) := HR.out.trans (combT_end HC0.out (by simp; omega))
          have HU := Lib.hid hu
          clear hu
          go_wp2_with fail
          refine (next_at s i c HC.out (by omega) _ _ hc).mono ?_
          rintro e w1 ⟨rfl, hc1, hg1⟩
          have hB1 := below_of_only hB (Nat.le_refl _) hg1
          rw [hend2] at hc1
          go_wp2_with fail
          refine (next_none s _ _ hc1).mono ?_
          rintro e w2 ⟨rfl, hc2, hg2⟩
          have hB2 := below_of_only hB1 (Nat.le_refl _) hg2
          go_wp2
          go_step3
          exact And.intro rfl ⟨6, ⟨_, _, _, _, _, _, _, _, _, _, _, _, _, _, _, _, _, _, _, _, _, _, _, _, _, _, _, _, _, _, _, _, _, _, _, _, _, _, _, _, _, _, _, _, rfl⟩, HU, hB2⟩
        · have hlt2 : i + 1 < s.data.toList.length := by simp; omega
          obtain ⟨d, hdv⟩ : ∃ d, s.data.toList[i + 1]? = some d := ⟨_, List.getElem?_eq_getElem hlt2⟩
          have hd256 := d.toNat_lt
          by_cases h1 : d = 1
          · have hd1 : ((d.toNat : Int) == 1) = true := by rw [h1]; rfl
            have hu := HR.out.trans (combT_ret (O := O) HC0.out (by rw [hdv, h1]))
            have HU := Lib.hid hu
            have HD := Lib.hid hdv
            clear hu hdv h1
            go_wp2_with fail
            refine (next_at s i c HC.out (by omega) _ _ hc).mono ?_
            rintro e w1 ⟨rfl, hc1, hg1⟩
            have hB1 := below_of_only hB (Nat.le_refl _) hg1
            have hown1 := hown.kept hg1 (.inr hne)
            go_wp2_with fail
            refine (next_at s (i + 1) d HD.out (by omega) _ _ hc1).mono ?_
            rintro e w2 ⟨rfl, hc2, hg2⟩
            have hB2 := below_of_only hB1 (Nat.le_refl _) hg2
            have hown2 := hown1.kept hg2 (.inr hne)
            have hcell : w2.cell? ⟨w.heap.size, 1, none⟩ = some (.int .i64 ((i + 1 + 1 : Nat) : Int)) := hc2.cell 1
            have hconv : ∀ n, (convert 47 9 u7).run Try.prog (w2.drewN n) = .ok (.string ⟨O.toArray⟩) (w2.drewN n) := fun n => conv_cells (w := w2.drewN n) O hown2
            clear hown hown1 hown2
            go_wp2
            go_quiet (fail)
            go_wp2
            simp only [Exit.jump]
            go_ret3
            refine ⟨?_, below_drewN hB2 _⟩
            rw [HU.out]
            rfl
          · have hd1 : ((d.toNat : Int) == 1) = false := by
              simp
              intro e
              exact h1 (UInt8.toNat_inj.mp (by rw [show d.toNat = 1 by omega]; rfl))
            by_cases h255 : d = 255
            · have hd255 : ((d.toNat : Int) != 255) = false := by rw [h255]; rfl
              have hu := HR.out.trans (combT_two (O := O) HC0.out (by rw [hdv, h255]))
              have HU := Lib.hid hu
              have HD := Lib.hid hdv
              clear hu hdv h1 h255
              go_wp2_with fail
              refine (next_at s i c HC.out (by omega) _ _ hc).mono ?_
              rintro e w1 ⟨rfl, hc1, hg1⟩
              have hB1 := below_of_only hB (Nat.le_refl _) hg1
              have hown1 := hown.kept hg1 (.inr hne)
              go_wp2_with fail
              refine (next_at s (i + 1) d HD.out (by omega) _ _ hc1).mono ?_
              rintro e w2 ⟨rfl, hc2, hg2⟩
              have hB2 := below_of_only hB1 (Nat.le_refl _) hg2
              have hown2 := hown1.kept hg2 (.inr hne)
              have hB2s := hB2.size
              go_wp2_with (first | (at_builtin; refine wpList_append_own _ rfl (.tmp 40) (.tmp 42) 47 rfl w.heap.size 5 i0 (.int .u8 0) 1 1 Try.underlying47 hi hz0 hz1 hz2 rfl (by decide) _ _ _ rfl (hown2.alloc _) ⟨w2.heap.size, 0, none⟩ 1 1 [.int .u8 0] rfl rfl (one_new _ _ _) (by intro u hu; simp at hu; first | (subst hu; rfl) | (rcases hu with hu | hu <;> (subst hu; rfl))) (by unfold maxLen; omega) (by omega) (by simp; omega) ?_; intro v1 w3 hown3 hg3 _; have hB3 := (hB2.alloc hB2s _).grown hg3 (by simp; omega) (own_base hown2); have hc3 := (hc2.alloc _).grown hg3 (fun e => hne e.symm); clear hg3) | (fail))
              go_roundw
              case rel => exact ⟨i + 2, O ++ [0], by omega, by simp; omega, by simpa [cellsOf] using hown3, HU, hc3, hB3⟩
              case measure => rw [posOf_cur hc3, HP.out]; omega
            · have hd255 : ((d.toNat : Int) != 255) = true := by
                rw [bne_iff_ne]
                intro e
                exact h255 (UInt8.toNat_inj.mp (by rw [show d.toNat = 255 by omega]; rfl))
              have hu := HR.out.trans (combT_form (O := O) HC0.out hdv h1 h255)
              have HU := Lib.hid hu
              have HD := Lib.hid hdv
              clear hu hdv h1 h255
              go_wp2_with fail
              refine (next_at s i c HC.out (by omega) _ _ hc).mono ?_
              rintro e w1 ⟨rfl, hc1, hg1⟩
              have hB1 := below_of_only hB (Nat.le_refl _) hg1
              go_wp2_with fail
              refine (next_at s (i + 1) d HD.out (by omega) _ _ hc1).mono ?_
              rintro e w2 ⟨rfl, hc2, hg2⟩
              have hB2 := below_of_only hB1 (Nat.le_refl _) hg2
              go_wp2
              go_step3
              exact And.intro rfl ⟨7, ⟨_, _, _, _, _, _, _, _, _, _, _, _, _, _, _, _, _, _, _, _, _, _, _, _, _, _, _, _, _, _, _, _, _, _, _, _, _, _, _, _, _, _, _, _, rfl⟩, HU, hB2⟩
      · have hz' : ((c.toNat : Int) == 0) = false := by
          simp
          intro e
          exact hz (UInt8.toNat_inj.mp (by rw [e]; rfl))
        have hu := HR.out.trans (combT_go (O := O) hcv hz)
        have HU := Lib.hid hu
        have HC := Lib.hid hcv
        clear hcv hu hz
        go_wp2_with fail
        refine (next_at s i c HC.out (by omega) _ _ hc).mono ?_
        rintro e w1 ⟨rfl, hc1, hg1⟩
        have hB1 := below_of_only hB (Nat.le_refl _) hg1
        have hown1 := hown.kept hg1 (.inr hne)
        have hB1s := hB1.size
        go_wp2_with (first | (at_builtin; refine wpList_append_own _ rfl (.tmp 40) (.tmp 42) 47 rfl w.heap.size 5 i0 (.int .u8 0) 1 1 Try.underlying47 hi hz0 hz1 hz2 rfl (by decide) _ _ _ rfl (hown1.alloc _) ⟨w1.heap.size, 0, none⟩ 1 1 [.int .u8 (c.toNat : Int)] rfl rfl (one_new _ _ _) (by intro u hu; simp at hu; first | (subst hu; rfl) | (rcases hu with hu | hu <;> (subst hu; rfl))) (by unfold maxLen; omega) (by omega) (by simp; omega) ?_; intro v1 w2 hown2 hg2 _; have hB2 := (hB1.alloc hB1s _).grown hg2 (by simp; omega) (own_base hown1); have hc2 := (hc1.alloc _).grown hg2 (fun e => hne e.symm); clear hg2) | (fail))
        go_roundw
        case rel => exact ⟨i + 1, O ++ [c], by omega, by simp; omega, by simpa [cellsOf] using hown2, HU, hc2, hB2⟩
        case measure => rw [posOf_cur hc2, HP.out]; omega
end Go.Proofs.Ytjlpliapofndcaa.CodeW
