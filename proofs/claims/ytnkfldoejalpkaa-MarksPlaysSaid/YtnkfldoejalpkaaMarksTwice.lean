/- What is told or seen twice in a row changes nothing the second time: the walk of the law. -/
import Derived.Test.YtnkfldoejalpkaaMarksR
namespace Go.Proofs.Ytnkfldoejalpkaa.Marks
open Go.RowKit Aid PMarks Txt
theorem fit_nat {n bound : Int} (h : fit n bound = true) : ∃ q : Nat, n = q ∧ 1 ≤ q ∧ q ≤ 16 ∧ 0 ≤ bound ∧ bound ≤ 1099511627776 := by
  have := of_decide_eq_true h
  exact ⟨n.toNat, by omega, by omega, by omega, by omega, by omega⟩
theorem lawTwice (n bound : Int) (a : Option Addr) (cap : Nat) (l : List PMarks.Op) (o : PMarks.Op) (w : World) (ho : OpsAt w a l) :
    Calls Try.prog 7 #[.int .i64 n, .int .i64 bound, .slice a l.length cap, .agg #[.int .i64 o.do_, .int .i64 o.src, .int .i64 o.t]] w fun e w' => e = .returned (.bool true) ∧ Below w.heap.size w w' := by
  obtain ⟨dd, ds, dt⟩ := o
  have hB0 := (Below.refl w.heap.size w).alloc (Nat.le_refl _) (.cells #[.int .i64 dd, .int .i64 ds, .int .i64 dt] 35)
  have hK0 := Blk.new w 35 #[.int .i64 dd, .int .i64 ds, .int .i64 dt]
  have hs0 : (w.alloc (.cells #[.int .i64 dd, .int .i64 ds, .int .i64 dt] 35)).heap.size = w.heap.size + 1 := by simp
  have HO := Lib.hid ho
  have HL := Lib.hid ho.lt
  clear ho
  cases hf : fit n bound with
  | false =>
    have HN := Lib.hid fun w => new_bad n bound hf w
    have HB := Lib.hid hB0
    clear hf hs0
    go_enter Try.func7, Try.ntmps7
    go_wp2_with fail
    refine (HN.out _).mono ?_
    rintro e w1 ⟨rfl, rfl⟩
    go_wp2_with fail
    refine (awake_any _).mono ?_
    rintro e w2 ⟨rfl, hb⟩
    go_wp2_with fail
    go_ret
    exact ⟨rfl, HB.out.trans (hb.mono HB.out.size)⟩
  | true =>
    obtain ⟨q, rfl, q1, q2, q3, q4⟩ := fit_nat hf
    have HN := Lib.hid fun w => new_any q bound q1 q2 q3 q4 w
    have hg := good_mk0 q bound q1 q3 q4
    have hr := rng_mk0 q bound
    generalize mk0 q bound = s at HN hg hr
    by_cases hlen : 200 < l.length
    · have h2 : (200 : Int) < (l.length : Int) := by omega
      have HB := Lib.hid hB0
      clear hf hs0 hB0
      go_enter Try.func7, Try.ntmps7
      go_wp2_with fail
      refine (HN.out _).mono ?_
      rintro e w1 ⟨b, rfl, hb, h0, hB⟩
      go_wp2_with fail
      refine (awake_any _).mono ?_
      rintro e w2 ⟨rfl, hb2⟩
      go_wp2_with fail
      go_ret
      have h1 := HB.out.trans (hB.mono HB.out.size)
      exact ⟨rfl, h1.trans (hb2.mono h1.size)⟩
    · have h2 : (l.length : Int) ≤ 200 := by omega
      have HB := Lib.hid hB0
      have HK := Lib.hid hK0
      have HS := Lib.hid hs0
      clear hf hs0 hB0 hK0
      go_enter Try.func7, Try.ntmps7
      go_wp2_with fail
      refine (HN.out _).mono ?_
      rintro e w1 ⟨b, rfl, hb, h0, hB⟩
      have hb1 : w.heap.size < b := by have := HS.out; omega
      have hBw : Below w.heap.size w w1 := HB.out.trans (hB.mono HB.out.size)
      have hk1 : Blk w1 w.heap.size 35 #[.int .i64 dd, .int .i64 ds, .int .i64 dt] := HK.out.below hB (by rw [HS.out]; omega)
      have ho1 : OpsAt w1 a l := HO.out.below hBw
      have hne : ∀ ad, a = some ad → 0 < l.length → ad.block ≠ b := fun ad e e2 => by have := HL.out ad e e2; omega
      have HC := Lib.hid (does_any b s hg a cap l (by omega) w1 h0 ho1 hne)
      have HBW := Lib.hid hBw
      have HK1 := Lib.hid hk1
      clear hb hB hBw hk1 ho1 hne h0
      go_wp2_with fail
      refine (HC.out).mono ?_
      rintro e w2 ⟨rfl, h2, k2⟩
      have hg2 := good_acts hg l
      have hr2 := hr.acts hg l
      generalize acts s l = s2 at h2 hg2 hr2
      have hk2 : Blk w2 w.heap.size 35 #[.int .i64 dd, .int .i64 ds, .int .i64 dt] := HK1.out.grown k2 (by intro e; injection e with e; omega)
      have hB2 := below_of_only HBW.out (by omega) k2
      have c0 := (hk2.cell 0).trans rfl
      have c1 := (hk2.cell 1).trans rfl
      have c2 := (hk2.cell 2).trans rfl
      have HK2 := Lib.hid hk2
      have HB2 := Lib.hid hB2
      have H2 := Lib.hid h2
      clear k2 hk2 hB2 h2
      go_wp2_with fail
      have step : ∀ (s2 : St) (w2 : World), Good s2 → Held w2 b s2 → Calls Try.prog 17 #[.pointer (some ⟨b, 0, none⟩), .slice (some ⟨w2.heap.size, 0, none⟩) 1 1] (w2.alloc (.cells #[.int .i64 dd, .int .i64 ds, .int .i64 dt] 35)) fun e w' => e = .returned (.string (B (says s2 ⟨dd, ds, dt⟩))) ∧ Held w' b (act s2 ⟨dd, ds, dt⟩) ∧ w2.grownBy w' (some b) := fun s2 w2 hg2 h2 =>
        (does_one b s2 hg2 w2.heap.size 35 ⟨dd, ds, dt⟩ _ (h2.below ((Below.refl _ _).alloc (Nat.le_refl _) _) h2.lt) (Blk.new w2 35 #[.int .i64 dd, .int .i64 ds, .int .i64 dt]) (by have := h2.lt; omega)).mono
          fun e w' ⟨h1, h3, h4⟩ => ⟨h1, h3, only_trans (only_alloc (only_refl _ _) _) h4⟩
      have STEP := Lib.hid step
      clear step
      refine (STEP.out s2 w2 hg2 H2.out).mono ?_
      rintro e w3 ⟨rfl, h3, k3⟩
      have hg3 := hg2.act ⟨dd, ds, dt⟩
      have hr3 := hr2.act hg2 ⟨dd, ds, dt⟩
      have haa := act_act s2 ⟨dd, ds, dt⟩
      generalize act s2 ⟨dd, ds, dt⟩ = s3 at h3 hg3 hr3 haa
      have HK3 := Lib.hid (HK2.out.grown k3 (by intro e; injection e with e; omega))
      have HB3 := Lib.hid (below_of_only HB2.out (by omega) k3)
      have H3 := Lib.hid h3
      have HAA := Lib.hid haa
      clear k3 h3 haa c0 c1 c2
      go_wp2_with fail
      refine (text_rng b s3 hg3 hr3 w3 H3.out).mono ?_
      rintro e w4 ⟨rfl, hb4⟩
      have hk4 := HK3.out.below hb4 HK3.out.lt
      have c0 := (hk4.cell 0).trans rfl
      have c1 := (hk4.cell 1).trans rfl
      have c2 := (hk4.cell 2).trans rfl
      have H4 := Lib.hid (H3.out.below hb4 H3.out.lt)
      have HB4 := Lib.hid (HB3.out.trans (hb4.mono HB3.out.size))
      clear hb4 hk4
      go_wp2_with fail
      refine (STEP.out s3 w4 hg3 H4.out).mono ?_
      rintro e w5 ⟨rfl, h5, k5⟩
      rw [HAA.out] at h5
      have HB5 := Lib.hid (below_of_only HB4.out (by omega) k5)
      have H5 := Lib.hid h5
      clear k5 h5 c0 c1 c2
      go_wp2_with fail
      refine (text_rng b s3 hg3 hr3 w5 H5.out).mono ?_
      rintro e w6 ⟨rfl, hb6⟩
      have HB6 := Lib.hid (HB5.out.trans (hb6.mono HB5.out.size))
      clear hb6
      generalize B (text s3) = x
      go_wp2_with fail
      refine (awake_any _).mono ?_
      rintro e w7 ⟨rfl, hb7⟩
      go_wp2_with fail
      go_ret
      exact ⟨rfl, HB6.out.trans (hb7.mono HB6.out.size)⟩
end Go.Proofs.Ytnkfldoejalpkaa.Marks
