/- All bytes are read as the marks whose text they are, or refused: the walk of the law. -/
import Derived.Test.YtnkfldoejalpkaaMarksQ
import Derived.Deep.RegionHeld3
namespace Go.Proofs.Ytnkfldoejalpkaa.Marks
open Go.RowKit Aid PMarks Txt Print Go.Proofs.YtnkfldoejalpkaaW.PrintWords Go.Proofs.YtnkfldoejalpkaaW.PrintMore
/-- what the reference's reading hands back -/
def RGot (r : Option St) (w : World) (e : Ending) (w' : World) : Prop := ∃ (bd nw : Int) (A1 : Option Addr) (n1 c1 : Nat) (A2 : Option Addr) (n2 c2 : Nat), e = .returned (.tuple #[.agg #[.int .i64 bd, .int .i64 nw, .slice A1 n1 c1, .slice A2 n2 c2], .bool r.isSome]) ∧ (∀ st, r = some st → nw = st.now) ∧ Below w.heap.size w w'
theorem rread_any (s : ByteArray) (hs : s.size ≤ 140737488351232) (w : World) : Calls Try.prog 20 #[.string s] w (RGot (read (L s)) w) := by
  obtain ⟨k, hk⟩ := (ref_read s hs).rounds
  cases hr : read (L s) with
  | none =>
    rw [hr] at hk
    refine (freshetref23_Read.calls k s _ _ _ _ _ w hk).mono ?_
    rintro e w' ⟨v1, v2, rfl, r1, r2, hb⟩
    obtain ⟨A1, c1, rfl⟩ := Kd.R_slice r1
    obtain ⟨A2, c2, rfl⟩ := Kd.R_slice r2
    exact ⟨_, _, A1, _, c1, A2, _, c2, rfl, (fun st h => by cases h), hb⟩
  | some st =>
    rw [hr] at hk
    refine (freshetref23_Read.calls k s _ _ _ _ _ w hk).mono ?_
    rintro e w' ⟨v1, v2, rfl, r1, r2, hb⟩
    obtain ⟨A1, c1, rfl⟩ := Kd.R_slice r1
    obtain ⟨A2, c2, rfl⟩ := Kd.R_slice r2
    exact ⟨_, _, A1, _, c1, A2, _, c2, rfl, (fun st' h => by cases h; rfl), hb⟩
set_option maxRecDepth 100000 in
set_option maxHeartbeats 2000000 in
theorem lawReads (s : ByteArray) (hs : s.size ≤ 140737488351232) (w : World) : Calls Try.prog 8 #[.string s] w fun e w' => e = .returned (.bool true) ∧ Below w.heap.size w w' := by
  have HA := Lib.hid fun w => read_any s hs w
  have HB := Lib.hid fun w => rread_any s hs w
  cases hr : read (L s) with
  | none =>
    rw [hr] at HA HB
    clear hr
    go_enter Try.func8, Try.ntmps8
    go_wp2_with fail
    refine (HA.out _).mono ?_
    rintro e w1 ⟨rfl, hb1⟩
    go_wp2_with fail
    refine (HB.out _).mono ?_
    rintro e w2 ⟨bd, nw, A1, n1, c1, A2, n2, c2, rfl, _, hb2⟩
    have h1 := (hb1.trans (hb2.mono hb1.size)).alloc (Nat.le_trans hb1.size hb2.size) (.cells #[.int .i64 bd, .int .i64 nw, .slice A1 n1 c1, .slice A2 n2 c2] 52)
    have H1 := Lib.hid h1
    clear h1 hb1 hb2
    go_wp2_with fail
    refine (awake_any _).mono ?_
    rintro e w3 ⟨rfl, hb3⟩
    go_wp2_with fail
    go_ret
    exact ⟨rfl, H1.out.trans (hb3.mono H1.out.size)⟩
  | some st =>
    rw [hr] at HA HB
    obtain ⟨ht, hg, hrn, hle⟩ := read_some (L s) st hr
    have htx : B (text st) = s := by rw [ht, B_L]
    have HTX := Lib.hid htx
    have HG := Lib.hid hg
    have HR := Lib.hid hrn
    clear hr ht hg hrn htx
    go_enter Try.func8, Try.ntmps8
    go_wp2_with fail
    refine (HA.out _).mono ?_
    rintro e w1 ⟨b, rfl, hb, h1, hb1⟩
    have H1 := Lib.hid h1
    have HB1 := Lib.hid hb1
    clear hb h1 hb1
    go_wp2_with fail
    refine (HB.out _).mono ?_
    rintro e w2 ⟨bd, nw, A1, n1, c1, A2, n2, c2, rfl, hnw, hb2⟩
    obtain rfl := hnw st rfl
    have hB2 := HB1.out.trans (hb2.mono HB1.out.size)
    have H2 := H1.out.below hb2 H1.out.lt
    have hB3 := Lib.hid (hB2.alloc hB2.size (.cells #[.int .i64 bd, .int .i64 st.now, .slice A1 n1 c1, .slice A2 n2 c2] 52))
    have H3 := Lib.hid (H2.below ((Below.refl w2.heap.size w2).alloc (Nat.le_refl _) (.cells #[.int .i64 bd, .int .i64 st.now, .slice A1 n1 c1, .slice A2 n2 c2] 52)) H2.lt)
    have K3 := Lib.hid (Blk.new w2 52 #[.int .i64 bd, .int .i64 st.now, .slice A1 n1 c1, .slice A2 n2 c2])
    clear hB2 H2 hb2 hnw H1 HB1
    go_wp2_with fail
    generalize w2.alloc (.cells #[.int .i64 bd, .int .i64 st.now, .slice A1 n1 c1, .slice A2 n2 c2] 52) = W at hB3 H3 K3 ⊢
    generalize w2.heap.size = g at K3 ⊢
    refine (text_rng b st HG.out HR.out W H3.out).mono ?_
    rintro e w4 ⟨rfl, hb4⟩
    have H4 := Lib.hid (H3.out.below hb4 H3.out.lt)
    have K4 := Lib.hid (K3.out.below hb4 K3.out.lt)
    have HB4 := Lib.hid (hB3.out.trans (hb4.mono hB3.out.size))
    have k1 := (K4.out.cell 1).trans rfl
    rw [HTX.out]
    clear hb4 H3 K3 hB3
    go_wp2_with fail
    have HN := Lib.hid fun w' x1 => now_any b st w' x1
    go_region_held3 (fun w' => w'.cell? ⟨g, 1, none⟩ = some (.int .i64 st.now)) (first | exact z1 | exact k1)
      (first
        | (go_at_call 14; (with_reducible refine (HN.out _ (by first | exact H4.out | exact H4.out.of_block rfl)).mono ?_); rintro e w' ⟨rfl, rfl⟩)
        | (go_at_call 12; (with_reducible refine (awake_any _).mono ?_); rintro e w6 ⟨rfl, hb1_⟩; have hb6 : Below w4.heap.size w4 w6 := (by first | exact hb1_ | exact (Below.refl _ _).drew.trans hb1_); have z1 := K4.out.below hb6 K4.out.lt |>.cell 1 |>.trans rfl; clear hb1_))
    go_wp2_with fail
    go_ret
    exact ⟨rfl, HB4.out.trans (hb6.mono HB4.out.size)⟩
end Go.Proofs.Ytnkfldoejalpkaa.Marks
