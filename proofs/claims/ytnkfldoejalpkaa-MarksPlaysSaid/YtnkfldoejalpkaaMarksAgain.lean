/- Marks that are read again go on as those that were written: the walk of the law. -/
import Derived.Test.YtnkfldoejalpkaaMarksB
import Derived.Test.YtnkfldoejalpkaaMarksTwice
namespace Go.Proofs.Ytnkfldoejalpkaa.Marks
open Go.RowKit Aid PMarks Txt
theorem text_size (s : St) (hg : Good s) (hl : s.l.length ≤ 16) : (B (text s)).size ≤ 140737488351232 := by
  rw [size_B]
  unfold text
  have h1 := head_le s (by omega) hg.lo hg.hi
  have h2 := ones_le s.l
  rw [List.length_append]
  omega
/-- what is written is read: another one of the same kind -/
theorem read_back (s : St) (hg : Good s) (hr : Rng s) (hl : s.l.length ≤ 16) (w : World) : Calls Try.prog 19 #[.string (B (text s))] w fun e w' => ∃ b, e = .returned (.tuple #[.pointer (some ⟨b, 0, none⟩), .int .i64 0]) ∧ w.heap.size ≤ b ∧ Held w' b s ∧ Below w.heap.size w w' := by
  have h := read_any (B (text s)) (text_size s hg hl) w
  rw [L_B, read_text s hg hr hl] at h
  exact h
set_option maxRecDepth 100000 in
set_option maxHeartbeats 2000000 in
theorem lawAgain (n bound : Int) (a : Option Addr) (cap : Nat) (l : List PMarks.Op) (a2 : Option Addr) (cap2 : Nat) (l2 : List PMarks.Op) (w : World) (ho : OpsAt w a l) (ho2 : OpsAt w a2 l2) :
    Calls Try.prog 10 #[.int .i64 n, .int .i64 bound, .slice a l.length cap, .slice a2 l2.length cap2] w fun e w' => e = .returned (.bool true) ∧ Below w.heap.size w w' := by
  have HO := Lib.hid ho
  have HL := Lib.hid ho.lt
  have HO2 := Lib.hid ho2
  have HL2 := Lib.hid ho2.lt
  clear ho ho2
  cases hf : fit n bound with
  | false =>
    have HN := Lib.hid fun w => new_bad n bound hf w
    clear hf
    go_enter Try.func10, Try.ntmps10
    go_wp2_with fail
    refine (HN.out _).mono ?_
    rintro e w1 ⟨rfl, rfl⟩
    go_wp2_with fail
    refine (awake_any _).mono ?_
    rintro e w2 ⟨rfl, hb⟩
    go_wp2_with fail
    go_ret
    exact ⟨rfl, hb⟩
  | true =>
    obtain ⟨q, rfl, q1, q2, q3, q4⟩ := fit_nat hf
    have HN := Lib.hid fun w => new_any q bound q1 q2 q3 q4 w
    have hg := good_mk0 q bound q1 q3 q4
    have hr := rng_mk0 q bound
    generalize mk0 q bound = s at HN hg hr
    by_cases hlen : 100 < l.length
    · have h2 : (100 : Int) < (l.length : Int) := by omega
      clear hf
      go_enter Try.func10, Try.ntmps10
      go_wp2_with fail
      refine (HN.out _).mono ?_
      rintro e w1 ⟨b, rfl, hb, h0, hB⟩
      go_wp2_with fail
      refine (awake_any _).mono ?_
      rintro e w2 ⟨rfl, hb2⟩
      go_wp2_with fail
      go_ret
      exact ⟨rfl, hB.trans (hb2.mono hB.size)⟩
    · have h2 : (l.length : Int) ≤ 100 := by omega
      by_cases hlen2 : 100 < l2.length
      · have h3 : (100 : Int) < (l2.length : Int) := by omega
        clear hf
        go_enter Try.func10, Try.ntmps10
        go_wp2_with fail
        refine (HN.out _).mono ?_
        rintro e w1 ⟨b, rfl, hb, h0, hB⟩
        go_wp2_with fail
        refine (awake_any _).mono ?_
        rintro e w2 ⟨rfl, hb2⟩
        go_wp2_with fail
        go_ret
        exact ⟨rfl, hB.trans (hb2.mono hB.size)⟩
      · have h3 : (l2.length : Int) ≤ 100 := by omega
        clear hf
        go_enter Try.func10, Try.ntmps10
        go_wp2_with fail
        refine (HN.out _).mono ?_
        rintro e w1 ⟨b, rfl, hb, h0, hB⟩
        have hbw : w.heap.size ≤ b := hb
        have HC := Lib.hid (does_any b s hg a cap l (by omega) w1 h0 (HO.out.below hB) (fun ad e e2 => by have := HL.out ad e e2; omega))
        have HB1 := Lib.hid hB
        clear hb h0 hB
        go_wp2_with fail
        refine (HC.out).mono ?_
        rintro e w2 ⟨rfl, h2', k2⟩
        have hg2 := good_acts hg l
        have hr2 := hr.acts hg l
        generalize acts s l = s2 at h2' hg2 hr2
        have HB2 := Lib.hid (below_of_only HB1.out hbw k2)
        have H2 := Lib.hid h2'
        have hle2 := h2'.le
        clear k2 h2' HC
        go_wp2_with fail
        refine (text_rng b s2 hg2 hr2 w2 H2.out).mono ?_
        rintro e w3 ⟨rfl, hb3⟩
        have H3 := Lib.hid (H2.out.below hb3 H2.out.lt)
        have HB3 := Lib.hid (HB2.out.trans (hb3.mono HB2.out.size))
        have RB := Lib.hid (read_back s2 hg2 hr2 hle2 w3)
        clear hb3
        generalize B (text s2) = x at RB
        go_wp2_with fail
        refine (RB.out).mono ?_
        rintro e w4 ⟨b4, rfl, hb4, h4, hB4⟩
        have hb4w : w.heap.size ≤ b4 := Nat.le_trans HB3.out.size hb4
        have hne : b ≠ b4 := by have := H3.out.lt; omega
        have HA4 := Lib.hid (H3.out.below hB4 H3.out.lt)
        have HD4 := Lib.hid h4
        have HB4 := Lib.hid (HB3.out.trans (hB4.mono HB3.out.size))
        clear hb4 h4 hB4 RB
        have D1 := Lib.hid (does_any b s2 hg2 a2 cap2 l2 (by omega) w4 HA4.out (HO2.out.below HB4.out) (fun ad e e2 => by have := HL2.out ad e e2; omega))
        go_wp2_with fail
        refine (D1.out).mono ?_
        rintro e w5 ⟨rfl, h5, k5⟩
        have HA5 := Lib.hid h5
        have HD5 := Lib.hid (HD4.out.grown k5 (by intro e; injection e with e; exact hne e.symm))
        have HB5 := Lib.hid (below_of_only HB4.out hbw k5)
        clear h5 k5 D1
        have D2 := Lib.hid (does_any b4 s2 hg2 a2 cap2 l2 (by omega) w5 HD5.out (HO2.out.below HB5.out) (fun ad e e2 => by have := HL2.out ad e e2; omega))
        generalize B (saysAll s2 l2) = y at D2
        go_wp2_with fail
        refine (D2.out).mono ?_
        rintro e w6 ⟨rfl, h6, k6⟩
        have hg6 := good_acts hg2 l2
        have hr6 := hr2.acts hg2 l2
        have HA6 := Lib.hid (HA5.out.grown k6 (by intro e; injection e with e; exact hne e))
        have HB6 := Lib.hid (below_of_only HB5.out hb4w k6)
        have HD6 := Lib.hid h6
        clear h6 k6 D2
        generalize acts s2 l2 = s6 at hg6 hr6 HA6 HD6
        go_wp2_with fail
        refine (text_rng b s6 hg6 hr6 w6 HA6.out).mono ?_
        rintro e w7 ⟨rfl, hb7⟩
        have HD7 := Lib.hid (HD6.out.below hb7 HD6.out.lt)
        have HB7 := Lib.hid (HB6.out.trans (hb7.mono HB6.out.size))
        clear hb7
        go_wp2_with fail
        refine (text_rng b4 s6 hg6 hr6 w7 HD7.out).mono ?_
        rintro e w8 ⟨rfl, hb8⟩
        have HB8 := Lib.hid (HB7.out.trans (hb8.mono HB7.out.size))
        clear hb8
        generalize B (text s6) = z
        go_wp2_with fail
        refine (awake_any _).mono ?_
        rintro e w9 ⟨rfl, hb9⟩
        go_wp2_with fail
        go_ret
        exact ⟨rfl, HB8.out.trans (hb9.mono HB8.out.size)⟩
end Go.Proofs.Ytnkfldoejalpkaa.Marks
