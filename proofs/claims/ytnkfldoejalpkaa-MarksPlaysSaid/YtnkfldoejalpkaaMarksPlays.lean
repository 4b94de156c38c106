/- Marks answer as the document says, and are written as it says: the walk of the law. -/
import Derived.Test.YtnkfldoejalpkaaMarksPlay
import Derived.Test.YtnkfldoejalpkaaMarksAgain
namespace Go.Proofs.Ytnkfldoejalpkaa.Marks
open Go.RowKit Aid PMarks Txt Print Go.Proofs.YtnkfldoejalpkaaW.PrintWords Go.Proofs.YtnkfldoejalpkaaW.PrintMore
set_option maxRecDepth 100000 in
set_option maxHeartbeats 4000000 in
theorem lawPlays (n bound : Int) (a : Option Addr) (cap : Nat) (l : List PMarks.Op) (w : World) (ho : OpsAt w a l) :
    Calls Try.prog 9 #[.int .i64 n, .int .i64 bound, .slice a l.length cap] w fun e w' => e = .returned (.bool true) ∧ Below w.heap.size w w' := by
  have HO := Lib.hid ho
  clear ho
  cases hf : fit n bound with
  | false =>
    have HN := Lib.hid fun w => new_bad n bound hf w
    have HN2 := Lib.hid fun w => rnew_bad n bound hf w
    clear hf
    go_enter Try.func9, Try.ntmps9
    go_wp2_with fail
    refine (HN.out _).mono ?_
    rintro e w1 ⟨rfl, rfl⟩
    go_wp2_with fail
    refine (HN2.out _).mono ?_
    rintro e w1 ⟨A1, m1, c1, A2, m2, c2, rfl, hb1⟩
    go_wp2_with fail
    refine (awake_any _).mono ?_
    rintro e w2 ⟨rfl, hb⟩
    go_wp2_with fail
    go_ret
    have h1 := hb1.alloc hb1.size (.cells #[.int .i64 0, .int .i64 0, .slice A1 m1 c1, .slice A2 m2 c2] 52)
    exact ⟨rfl, h1.trans (hb.mono h1.size)⟩
  | true =>
    obtain ⟨q, rfl, q1, q2, q3, q4⟩ := fit_nat hf
    have HN := Lib.hid fun w => new_any q bound q1 q2 q3 q4 w
    have HN2 := Lib.hid fun w => rnew_any q bound q1 q2 q3 q4 w
    have HG := Lib.hid (good_mk0 q bound q1 q3 q4)
    have HR := Lib.hid (rng_mk0 q bound)
    by_cases hlen : 200 < l.length
    · have h2 : (200 : Int) < (l.length : Int) := by omega
      clear hf
      go_enter Try.func9, Try.ntmps9
      go_wp2_with fail
      refine (HN.out _).mono ?_
      rintro e w1 ⟨b, rfl, hb, h0, hB⟩
      go_wp2_with fail
      refine (HN2.out _).mono ?_
      rintro e w2 ⟨v1, v2, rfl, r1, r2, hb2⟩
      obtain ⟨A1, k1, rfl⟩ := Kd.R_slice r1
      obtain ⟨A2, k2, rfl⟩ := Kd.R_slice r2
      generalize ((mk0 q bound).l.map (·.1)).length = m1
      generalize ((mk0 q bound).l.map (·.2)).length = m2
      clear r1 r2
      go_wp2_with fail
      refine (awake_any _).mono ?_
      rintro e w3 ⟨rfl, hb3⟩
      go_wp2_with fail
      go_ret
      have h1 := (hB.trans (hb2.mono hB.size)).alloc (Nat.le_trans hB.size hb2.size) (.cells #[.int .i64 bound, .int .i64 (-1125899906842624), .slice A1 m1 k1, .slice A2 m2 k2] 52)
      exact ⟨rfl, h1.trans (hb3.mono h1.size)⟩
    · have h2 : (l.length : Int) ≤ 200 := by omega
      clear hf
      go_enter Try.func9, Try.ntmps9
      go_wp2_with fail
      refine (HN.out _).mono ?_
      rintro e w1 ⟨b, rfl, hb, h0, hB⟩
      have HH0 := Lib.hid h0
      have HB1 := Lib.hid hB
      clear h0 hB
      go_wp2_with fail
      refine (HN2.out _).mono ?_
      rintro e w2 ⟨v1, v2, rfl, r1, r2, hb2⟩
      obtain ⟨A1, k1, hv1⟩ := Kd.R_slice r1
      obtain ⟨A2, k2, hv2⟩ := Kd.R_slice r2
      generalize hm1 : ((mk0 q bound).l.map (·.1)).length = m1 at hv1
      generalize hm2 : ((mk0 q bound).l.map (·.2)).length = m2 at hv2
      clear hm1 hm2
      subst hv1 hv2
      have hnew := fun W (e : W = w2.alloc (.cells #[.int .i64 bound, .int .i64 (-1125899906842624), .slice A1 m1 k1, .slice A2 m2 k2] 52)) => RH.new (b := b) r1 r2 HH0.out.lt hb2 e rfl
      have hh2 := HH0.out.below hb2 HH0.out.lt
      have HNW := Lib.hid hnew
      have HH2 := Lib.hid (hh2.below ((Below.refl w2.heap.size w2).alloc (Nat.le_refl _) (.cells #[.int .i64 bound, .int .i64 (-1125899906842624), .slice A1 m1 k1, .slice A2 m2 k2] 52)) hh2.lt)
      have HB2 := Lib.hid ((HB1.out.trans (hb2.mono HB1.out.size)).alloc (Nat.le_trans HB1.out.size hb2.size) (.cells #[.int .i64 bound, .int .i64 (-1125899906842624), .slice A1 m1 k1, .slice A2 m2 k2] 52))
      have hgw : w.heap.size ≤ w2.heap.size := Nat.le_trans HB1.out.size hb2.size
      clear r1 r2 hb2 hnew hh2 HH0
      go_wp2_with fail
      have hBoth : Both w.heap.size w (w2.alloc (.cells #[.int .i64 bound, .int .i64 (-1125899906842624), .slice A1 m1 k1, .slice A2 m2 k2] 52)) b w2.heap.size (mk0 q bound) := ⟨HH2.out, ⟨_, _, HNW.out _ rfl⟩, HB2.out, hb, hgw, HB2.out.size⟩
      generalize w2.alloc (.cells #[.int .i64 bound, .int .i64 (-1125899906842624), .slice A1 m1 k1, .slice A2 m2 k2] 52) = W at hBoth ⊢
      generalize w2.heap.size = g at hBoth ⊢
      have HBo := Lib.hid hBoth
      clear hBoth HNW HH2 HB2 HB1 HN HN2 hgw hb
      go_loopw [7, 11] (fun v7 v11 wr => ∃ (i : Nat) (b : Nat) (s : St), i ≤ l.length ∧ v7 = .pointer (some ⟨b, 0, none⟩) ∧ v11 = .int .i64 i ∧ Good s ∧ Rng s ∧ Both w.heap.size w wr b g s) (fun _ v11 _ => l.length - (intOf v11).toNat)
      case atStart => exact ⟨0, b, mk0 q bound, by omega, rfl, rfl, HG.out, HR.out, HBo.out⟩
      case round =>
        clear HG HR HBo
        obtain ⟨i, b, s, hi, rfl, rfl, hg, hr, hB⟩ := hrel
        by_cases hlt : i < l.length
        · have t1 : ((i : Int) < (l.length : Int)) = True := eq_true (by omega)
          obtain ⟨ad, rfl, c0, c1, c2⟩ := HO.out.below hB.below i hlt
          generalize l[i] = o at c0 c1 c2
          obtain ⟨dd, ds, dt⟩ := o
          change wr.cell? ⟨(ad.add (i * 3)).block, (ad.add (i * 3)).off + 1, none⟩ = _ at c1
          change wr.cell? ⟨(ad.add (i * 3)).block, (ad.add (i * 3)).off + 2, none⟩ = _ at c2
          simp only at c0 c1 c2
          have HB := Lib.hid hB
          have HGS := Lib.hid hg
          have HRS := Lib.hid hr
          have hle := hB.held.le
          clear hB hg hr
          have last : ∀ (w5 : World) (b5 : Nat) (s5 : St), Good s5 → Rng s5 → Both w.heap.size w w5 b5 g s5 → Calls Try.prog 18 #[.pointer (some ⟨b5, 0, none⟩)] w5 fun e w' => e = .returned (.tuple #[.string (B (text s5)), .int .i64 0]) ∧ Both w.heap.size w w' b5 g s5 := fun w5 b5 s5 g5 r5 h5 =>
            (text_rng b5 s5 g5 r5 w5 h5.held).mono fun e w' ⟨h1, h3⟩ => ⟨h1, h5.more h3⟩
          have HLast := Lib.hid last
          clear last
          by_cases d4 : dd = 4
          · subst d4
            have RB := Lib.hid fun w => read_back s HGS.out HRS.out hle w
            have HL := Lib.hid (HLast.out wr b s HGS.out HRS.out HB.out)
            go_wp2_with fail
            refine (HL.out).mono ?_
            rintro e w3 ⟨rfl, hB3⟩
            have HB3 := Lib.hid hB3
            clear hB3 HL c0 c1 c2
            generalize B (text s) = x at RB
            go_wp2_with fail
            refine (RB.out _).mono ?_
            rintro e w4 ⟨b4, rfl, hb4, h4, hB4⟩
            have hbo : Both w.heap.size w w4 b4 g s := by
              obtain ⟨v1, v2, h3⟩ := HB3.out.ref
              exact ⟨h4, ⟨v1, v2, h3.rebase hB4 hb4⟩, HB3.out.below.trans (hB4.mono HB3.out.size), Nat.le_trans HB3.out.size hb4, HB3.out.n0g, Nat.le_trans HB3.out.size hB4.size⟩
            have HB4 := Lib.hid hbo
            clear hb4 h4 hB4 hbo RB
            go_wp2_with fail
            refine (HLast.out w4 b4 s HGS.out HRS.out HB4.out).mono ?_
            rintro e w5 ⟨rfl, hB5⟩
            have hle5 := hB5.held.le
            obtain ⟨v1, v2, hr5⟩ := hB5.ref
            obtain ⟨A1, c1, A2, c2, rfl, rfl, l1, l2, C1, C2⟩ := hr5.len
            have y0 := hr5.bound
            have y1 := hr5.now
            have y2 := hr5.c2
            have y3 := hr5.c3
            have HB5 := Lib.hid hB5
            have HC1 := Lib.hid C1
            have HC2 := Lib.hid C2
            have HT := Lib.hid fun w' x1 x2 => rtext_any s HGS.out HRS.out hle5 A1 A2 c1 c2 w' x1 x2 l1 l2
            have HNow := Lib.hid fun w' x1 => now_any b4 s w' x1
            clear hB5 hr5 C1 C2 l1 l2 hle5
            generalize B (text s) = x at HT ⊢
            go_wp2_with fail
            go_region_held3 (fun w' => w'.cell? ⟨g, 0, none⟩ = some (.int .i64 s.bound) ∧ w'.cell? ⟨g, 1, none⟩ = some (.int .i64 s.now) ∧ w'.cell? ⟨g, 2, none⟩ = some (.slice A1 s.l.length c1) ∧ w'.cell? ⟨g, 3, none⟩ = some (.slice A2 s.l.length c2)) (first | exact ⟨z0, z1, z2, z3⟩ | exact ⟨y0, y1, y2, y3⟩)
              (first
                | (go_at_call 14; (with_reducible refine (HNow.out _ (by first | exact HB5.out.held | exact HB5.out.held.of_block rfl)).mono ?_); rintro e w' ⟨rfl, rfl⟩)
                | (go_at_call 23; (with_reducible refine (HT.out _ (by first | exact HC1.out | exact Kd.C_drew HC1.out) (by first | exact HC2.out | exact Kd.C_drew HC2.out)).mono ?_); rintro e w6 ⟨rfl, hb1_⟩; have hb6 : Below w5.heap.size w5 w6 := (by first | exact hb1_ | exact (Below.refl _ _).drew.trans hb1_); have z0 := pw_cell_below hb6 y0; have z1 := pw_cell_below hb6 y1; have z2 := pw_cell_below hb6 y2; have z3 := pw_cell_below hb6 y3; clear hb1_))
            have HB6 := Lib.hid (HB5.out.more hb6)
            clear y0 y1 y2 y3 z0 z1 z2 z3 HC1 HC2 HT HNow hb6 HB5
            go_wp2_with fail
            go_roundw
            case rel => exact ⟨i + 1, b4, s, by omega, rfl, by go_num, HGS.out, HRS.out, HB6.out⟩
            case measure => simp [intOf]; omega
          · have n4_ : (dd == 4) = false := beq_eq_false_iff_ne.2 d4
            have HP := Lib.hid (play_any w.heap.size w b g s ⟨dd, ds, dt⟩ wr HGS.out HB.out)
            have g4 := HGS.out.act ⟨dd, ds, dt⟩
            have r4 := HRS.out.act HGS.out ⟨dd, ds, dt⟩
            go_wp2_with fail
            refine (HP.out).mono ?_
            clear HP HGS HRS
            rintro e w4 ⟨rfl, hbo⟩
            generalize act s ⟨dd, ds, dt⟩ = s at hbo g4 r4
            have HB4 := Lib.hid hbo
            have HGS := Lib.hid g4
            have HRS := Lib.hid r4
            obtain ⟨b4, hb4⟩ : ∃ b4, b4 = b := ⟨_, rfl⟩
            subst hb4
            clear hbo g4 r4 c0 c1 c2
            go_wp2_with fail
            refine (HLast.out w4 b4 s HGS.out HRS.out HB4.out).mono ?_
            rintro e w5 ⟨rfl, hB5⟩
            have hle5 := hB5.held.le
            obtain ⟨v1, v2, hr5⟩ := hB5.ref
            obtain ⟨A1, c1, A2, c2, rfl, rfl, l1, l2, C1, C2⟩ := hr5.len
            have y0 := hr5.bound
            have y1 := hr5.now
            have y2 := hr5.c2
            have y3 := hr5.c3
            have HB5 := Lib.hid hB5
            have HC1 := Lib.hid C1
            have HC2 := Lib.hid C2
            have HT := Lib.hid fun w' x1 x2 => rtext_any s HGS.out HRS.out hle5 A1 A2 c1 c2 w' x1 x2 l1 l2
            have HNow := Lib.hid fun w' x1 => now_any b4 s w' x1
            clear hB5 hr5 C1 C2 l1 l2 hle5
            generalize B (text s) = x at HT ⊢
            go_wp2_with fail
            go_region_held3 (fun w' => w'.cell? ⟨g, 0, none⟩ = some (.int .i64 s.bound) ∧ w'.cell? ⟨g, 1, none⟩ = some (.int .i64 s.now) ∧ w'.cell? ⟨g, 2, none⟩ = some (.slice A1 s.l.length c1) ∧ w'.cell? ⟨g, 3, none⟩ = some (.slice A2 s.l.length c2)) (first | exact ⟨z0, z1, z2, z3⟩ | exact ⟨y0, y1, y2, y3⟩)
              (first
                | (go_at_call 14; (with_reducible refine (HNow.out _ (by first | exact HB5.out.held | exact HB5.out.held.of_block rfl)).mono ?_); rintro e w' ⟨rfl, rfl⟩)
                | (go_at_call 23; (with_reducible refine (HT.out _ (by first | exact HC1.out | exact Kd.C_drew HC1.out) (by first | exact HC2.out | exact Kd.C_drew HC2.out)).mono ?_); rintro e w6 ⟨rfl, hb1_⟩; have hb6 : Below w5.heap.size w5 w6 := (by first | exact hb1_ | exact (Below.refl _ _).drew.trans hb1_); have z0 := pw_cell_below hb6 y0; have z1 := pw_cell_below hb6 y1; have z2 := pw_cell_below hb6 y2; have z3 := pw_cell_below hb6 y3; clear hb1_))
            have HB6 := Lib.hid (HB5.out.more hb6)
            clear y0 y1 y2 y3 z0 z1 z2 z3 HC1 HC2 HT HNow hb6 HB5
            go_wp2_with fail
            go_roundw
            case rel => exact ⟨i + 1, b4, s, by omega, rfl, by go_num, HGS.out, HRS.out, HB6.out⟩
            case measure => simp [intOf]; omega
        · have t1 : ((i : Int) < (l.length : Int)) = False := eq_false (by omega)
          go_wp2_with fail
          refine (awake_any _).mono ?_
          rintro e w2 ⟨rfl, hb2⟩
          go_wp2_with fail
          go_ret
          exact ⟨rfl, hB.below.trans (hb2.mono hB.size)⟩
end Go.Proofs.Ytnkfldoejalpkaa.Marks
