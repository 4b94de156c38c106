/- Now never falls, and is never above all times that were seen or told: the walk of the law. -/
import Derived.Test.YtnkfldoejalpkaaMarksTwice
namespace Go.Proofs.Ytnkfldoejalpkaa.Marks
open Go.RowKit Aid PMarks Txt
structure Rise (s : St) (g : Int) : Prop where
  all : ∀ x ∈ s.l, x.1 ≤ g
  now : s.now ≤ g
theorem Rise.put {s : St} {g : Int} (h : Rise s g) (k : Nat) (x : Src) (g' : Int) (hx : x.1 ≤ g') (hg : g ≤ g') : Rise (put s k x) g' := by
  have ha : ∀ y ∈ s.l.set k x, y.1 ≤ g' := fun y hy => by
    rcases List.mem_or_eq_of_mem_set hy with h1 | h1
    · exact Int.le_trans (h.all y h1) hg
    · rw [h1]; exact hx
  refine ⟨ha, ?_⟩
  show mxo s.now (least (s.l.set k x)) ≤ _
  have hi := Int.le_trans h.now hg
  cases hl : least (s.l.set k x) with
  | none => exact hi
  | some y =>
    have := ha _ (least_mem hl)
    simp only [mxo]
    split
    · exact this
    · exact hi
theorem Rise.old {s : St} {g : Int} (h : Rise s g) {k : Nat} (hk : k < s.l.length) : (s.l.getD k (0, false)).1 ≤ g := by
  rw [List.getD_eq_getElem?_getD, List.getElem?_eq_getElem hk]
  exact h.all _ (List.getElem_mem hk)
theorem Rise.tell {s : St} {g : Int} (h : Rise s g) {k : Nat} (hk : k < s.l.length) (t g' : Int) (ht : t ≤ g') (hg : g ≤ g') : Rise (tell s k t) g' := by
  refine h.put _ _ _ ?_ hg
  have := h.old hk
  unfold PMarks.mx
  dsimp only
  split <;> omega
theorem Rise.rest {s : St} {g : Int} (h : Rise s g) {k : Nat} (hk : k < s.l.length) : Rise (rest s k) g := h.put _ _ _ (h.old hk) (Int.le_refl _)
theorem rise_mk0 (n : Nat) (bound : Int) : Rise (mk0 n bound) (-1125899906842624) := ⟨fun x hx => by
  have : x = (-PMarks.T, false) := List.eq_of_mem_replicate hx
  rw [this]; exact Int.le_refl _, Int.le_refl _⟩
set_option maxHeartbeats 1000000 in
theorem lawRise (n bound : Int) (a : Option Addr) (cap : Nat) (l : List PMarks.Op) (w : World) (ho : OpsAt w a l) :
    Calls Try.prog 4 #[.int .i64 n, .int .i64 bound, .slice a l.length cap] w fun e w' => e = .returned (.bool true) ∧ Below w.heap.size w w' := by
  have HO := Lib.hid ho
  have HL := Lib.hid ho.lt
  clear ho
  cases hf : fit n bound with
  | false =>
    have HN := Lib.hid fun w => new_bad n bound hf w
    clear hf
    go_enter Try.func4, Try.ntmps4
    go_wp2_with fail
    refine (HN.out _).mono ?_
    rintro e w1 ⟨rfl, rfl⟩
    go_wp2_with fail
    refine (awake_any _).mono ?_
    rintro e w2 ⟨rfl, hb⟩
    go_wp2_with fail
    go_ret
    exact ⟨rfl, hb⟩
  | true =>
    obtain ⟨q, rfl, q1, q2, q3, q4⟩ := fit_nat hf
    have HN := Lib.hid fun w => new_any q bound q1 q2 q3 q4 w
    have hg := good_mk0 q bound q1 q3 q4
    have hr := rise_mk0 q bound
    generalize mk0 q bound = s at HN hg hr
    by_cases hlen : 200 < l.length
    · have h2 : (200 : Int) < (l.length : Int) := by omega
      clear hf
      go_enter Try.func4, Try.ntmps4
      go_wp2_with fail
      refine (HN.out _).mono ?_
      rintro e w1 ⟨b, rfl, hb, h0, hB⟩
      go_wp2_with fail
      refine (awake_any _).mono ?_
      rintro e w2 ⟨rfl, hb2⟩
      go_wp2_with fail
      go_ret
      exact ⟨rfl, hB.trans (hb2.mono hB.size)⟩
    · have h2 : (l.length : Int) ≤ 200 := by omega
      have HG := Lib.hid hg
      have HR := Lib.hid hr
      clear hf hg hr
      go_enter Try.func4, Try.ntmps4
      go_wp2_with fail
      refine (HN.out _).mono ?_
      rintro e w1 ⟨b, rfl, hb, h0, hB⟩
      have HB0 := Lib.hid hB
      have H0 := Lib.hid h0
      have hbw : w.heap.size ≤ b := hb
      clear hB h0 hb
      go_wp2_with fail
      go_loopw [9, 10] (fun v9 v10 wr => ∃ (i : Nat) (g : Int) (s : St), i ≤ l.length ∧ v9 = .int .i64 g ∧ v10 = .int .i64 i ∧ Good s ∧ Rise s g ∧ Held wr b s ∧ Below w.heap.size w wr) (fun _ v10 _ => l.length - (intOf v10).toNat)
      case atStart => exact ⟨0, -1125899906842624, s, by omega, rfl, rfl, HG.out, HR.out, H0.out, HB0.out⟩
      case round =>
        clear HG HR H0 HN
        obtain ⟨i, g, sr, hi, rfl, rfl, hg, hr, hH, hw⟩ := hrel
        by_cases hlt : i < l.length
        · have t1 : ((i : Int) < (l.length : Int)) = True := eq_true (by omega)
          obtain ⟨ad, rfl, c0, c1, c2⟩ := HO.out.below hw i hlt
          generalize l[i] = o at c0 c1 c2
          obtain ⟨dd, ds, dt⟩ := o
          change wr.cell? ⟨(ad.add (i * 3)).block, (ad.add (i * 3)).off + 1, none⟩ = _ at c1
          change wr.cell? ⟨(ad.add (i * 3)).block, (ad.add (i * 3)).off + 2, none⟩ = _ at c2
          simp only at c0 c1 c2
          generalize hW : wr.alloc (.cells #[.int .i64 dd, .int .i64 ds, .int .i64 dt] 35) = W2
          have B2 : Blk W2 wr.heap.size 35 #[.int .i64 dd, .int .i64 ds, .int .i64 dt] := by rw [← hW]; exact Blk.new _ _ _
          have q0 := (B2.cell 0).trans rfl
          have q1 := (B2.cell 1).trans rfl
          have q2 := (B2.cell 2).trans rfl
          have hne : wr.heap.size ≠ b := by have := hH.lt; omega
          have hH2 : Held W2 b sr := by rw [← hW]; exact hH.below ((Below.refl _ _).alloc (Nat.le_refl _) _) hH.lt
          have hw2 : Below w.heap.size w W2 := by rw [← hW]; exact hw.alloc hw.size _
          have HW2 := Lib.hid hw2
          have HH2 := Lib.hid hH2
          have HK2 := Lib.hid B2
          have HG := Lib.hid hg
          have HR := Lib.hid hr
          have hb0 := hg.lo
          clear B2 hw2 hH2 hH hw hg hr
          have hnow := (now_any b sr W2 HH2.out)
          by_cases d1 : dd = 1
          · subst d1
            cases ha : asked sr ds dt with
            | true =>
              obtain ⟨q, rfl, hq, t0, t9⟩ := asked_lo ha
              obtain ⟨s3, hs3⟩ : ∃ s3, s3 = tell sr q (dt - sr.bound - 1) := ⟨_, rfl⟩
              obtain ⟨late, hl⟩ : ∃ late, late = decide (dt ≤ sr.now) := ⟨_, rfl⟩
              have es : see sr (q : Int) dt = (s3, late, 0) := by unfold see; rw [if_pos ha, Int.toNat_natCast, hs3, hl]
              have HC := Lib.hid (fun w h => see_at (b := b) (w := w) h HG.out es)
              have hg3 : Good s3 := by rw [hs3]; exact HG.out.tell _ _
              have n1 : sr.now ≤ s3.now := by rw [hs3]; exact put_now _ _ _
              have hr3 : ∀ g', dt ≤ g' → g ≤ g' → Rise s3 g' := fun g' a b => by rw [hs3]; exact HR.out.tell hq _ g' (by omega) b
              have G3 := Lib.hid hg3
              have RR := Lib.hid hr3
              clear hl es ha hg3 hr3 hs3 hq t0 t9
              go_wp2_with fail
              refine hnow.mono ?_
              rintro e w3 ⟨rfl, rfl⟩
              go_wp2_with fail
              refine (HC.out _ HH2.out).mono ?_
              rintro e w3 ⟨rfl, h3, k3⟩
              have H3 := Lib.hid h3
              have K3 := Lib.hid k3
              have q3 := ((HK2.out.grown k3 (by intro e; injection e with e; exact hne e)).cell 2).trans rfl
              clear h3 k3
              by_cases hgt : g < dt
              · have R3 := Lib.hid (RR.out dt (Int.le_refl _) (by omega))
                clear RR
                have HW3 := Lib.hid (below_of_only HW2.out hbw K3.out)
                have r1 := R3.out.now
                go_wp2_with fail
                refine (now_any b _ _ H3.out).mono ?_
                rintro e w4 ⟨rfl, rfl⟩
                go_wp2_with fail
                refine (now_any b _ _ H3.out).mono ?_
                rintro e w4 ⟨rfl, rfl⟩
                go_wp2_with fail
                go_roundw
                case rel => exact ⟨i + 1, _, _, by omega, rfl, by go_num, G3.out, R3.out, H3.out, HW3.out⟩
                case measure => simp [intOf]; omega
              · have R3 := Lib.hid (RR.out g (by omega) (Int.le_refl _))
                clear RR
                have HW3 := Lib.hid (below_of_only HW2.out hbw K3.out)
                have r1 := R3.out.now
                go_wp2_with fail
                refine (now_any b _ _ H3.out).mono ?_
                rintro e w4 ⟨rfl, rfl⟩
                go_wp2_with fail
                refine (now_any b _ _ H3.out).mono ?_
                rintro e w4 ⟨rfl, rfl⟩
                go_wp2_with fail
                go_roundw
                case rel => exact ⟨i + 1, _, _, by omega, rfl, by go_num, G3.out, R3.out, H3.out, HW3.out⟩
                case measure => simp [intOf]; omega
            | false =>
              have es : see sr ds dt = (sr, false, 2) := by unfold see; rw [if_neg (by rw [ha]; simp)]
              have HC := Lib.hid (fun w h => see_at (b := b) (w := w) h HG.out es)
              have n1 : sr.now ≤ sr.now := Int.le_refl _
              have G3 := HG
              have R3 := HR
              clear es ha
              go_wp2_with fail
              refine hnow.mono ?_
              rintro e w3 ⟨rfl, rfl⟩
              go_wp2_with fail
              refine (HC.out _ HH2.out).mono ?_
              rintro e w3 ⟨rfl, h3, k3⟩
              have H3 := Lib.hid h3
              have K3 := Lib.hid k3
              clear h3 k3
              have HW3 := Lib.hid (below_of_only HW2.out hbw K3.out)
              have r1 := R3.out.now
              go_wp2_with fail
              refine (now_any b _ _ H3.out).mono ?_
              rintro e w4 ⟨rfl, rfl⟩
              go_wp2_with fail
              refine (now_any b _ _ H3.out).mono ?_
              rintro e w4 ⟨rfl, rfl⟩
              go_wp2_with fail
              go_roundw
              case rel => exact ⟨i + 1, _, _, by omega, rfl, by go_num, G3.out, R3.out, H3.out, HW3.out⟩
              case measure => simp [intOf]; omega
          · have n1_ : (dd == 1) = false := beq_eq_false_iff_ne.2 d1
            by_cases d2 : dd = 2
            · subst d2
              cases ha : asked sr ds dt with
              | true =>
                obtain ⟨q, rfl, hq, t0, t9⟩ := asked_lo ha
                obtain ⟨s3, hs3⟩ : ∃ s3, s3 = tell sr q (dt) := ⟨_, rfl⟩
                have es : tellE sr (q : Int) dt = (s3, 0) := by unfold tellE; rw [if_pos ha, Int.toNat_natCast, hs3]
                have HC := Lib.hid (fun w h => tell_at (b := b) (w := w) h HG.out es)
                have hg3 : Good s3 := by rw [hs3]; exact HG.out.tell _ _
                have n1 : sr.now ≤ s3.now := by rw [hs3]; exact put_now _ _ _
                have hr3 : ∀ g', dt ≤ g' → g ≤ g' → Rise s3 g' := fun g' a b => by rw [hs3]; exact HR.out.tell hq _ g' (by omega) b
                have G3 := Lib.hid hg3
                have RR := Lib.hid hr3
                clear  es ha hg3 hr3 hs3 hq t0 t9
                go_wp2_with fail
                refine hnow.mono ?_
                rintro e w3 ⟨rfl, rfl⟩
                go_wp2_with fail
                refine (HC.out _ HH2.out).mono ?_
                rintro e w3 ⟨rfl, h3, k3⟩
                have H3 := Lib.hid h3
                have K3 := Lib.hid k3
                have q3 := ((HK2.out.grown k3 (by intro e; injection e with e; exact hne e)).cell 2).trans rfl
                clear h3 k3
                by_cases hgt : g < dt
                · have R3 := Lib.hid (RR.out dt (Int.le_refl _) (by omega))
                  clear RR
                  have HW3 := Lib.hid (below_of_only HW2.out hbw K3.out)
                  have r1 := R3.out.now
                  go_wp2_with fail
                  refine (now_any b _ _ H3.out).mono ?_
                  rintro e w4 ⟨rfl, rfl⟩
                  go_wp2_with fail
                  refine (now_any b _ _ H3.out).mono ?_
                  rintro e w4 ⟨rfl, rfl⟩
                  go_wp2_with fail
                  go_roundw
                  case rel => exact ⟨i + 1, _, _, by omega, rfl, by go_num, G3.out, R3.out, H3.out, HW3.out⟩
                  case measure => simp [intOf]; omega
                · have R3 := Lib.hid (RR.out g (by omega) (Int.le_refl _))
                  clear RR
                  have HW3 := Lib.hid (below_of_only HW2.out hbw K3.out)
                  have r1 := R3.out.now
                  go_wp2_with fail
                  refine (now_any b _ _ H3.out).mono ?_
                  rintro e w4 ⟨rfl, rfl⟩
                  go_wp2_with fail
                  refine (now_any b _ _ H3.out).mono ?_
                  rintro e w4 ⟨rfl, rfl⟩
                  go_wp2_with fail
                  go_roundw
                  case rel => exact ⟨i + 1, _, _, by omega, rfl, by go_num, G3.out, R3.out, H3.out, HW3.out⟩
                  case measure => simp [intOf]; omega
              | false =>
                have es : tellE sr ds dt = (sr, 2) := by unfold tellE; rw [if_neg (by rw [ha]; simp)]
                have HC := Lib.hid (fun w h => tell_at (b := b) (w := w) h HG.out es)
                have n1 : sr.now ≤ sr.now := Int.le_refl _
                have G3 := HG
                have R3 := HR
                clear es ha
                go_wp2_with fail
                refine hnow.mono ?_
                rintro e w3 ⟨rfl, rfl⟩
                go_wp2_with fail
                refine (HC.out _ HH2.out).mono ?_
                rintro e w3 ⟨rfl, h3, k3⟩
                have H3 := Lib.hid h3
                have K3 := Lib.hid k3
                clear h3 k3
                have HW3 := Lib.hid (below_of_only HW2.out hbw K3.out)
                have r1 := R3.out.now
                go_wp2_with fail
                refine (now_any b _ _ H3.out).mono ?_
                rintro e w4 ⟨rfl, rfl⟩
                go_wp2_with fail
                refine (now_any b _ _ H3.out).mono ?_
                rintro e w4 ⟨rfl, rfl⟩
                go_wp2_with fail
                go_roundw
                case rel => exact ⟨i + 1, _, _, by omega, rfl, by go_num, G3.out, R3.out, H3.out, HW3.out⟩
                case measure => simp [intOf]; omega
            · have n2_ : (dd == 2) = false := beq_eq_false_iff_ne.2 d2
              by_cases d3 : dd = 3
              · subst d3
                obtain ⟨⟨s3, c⟩, es⟩ : ∃ r, idleE sr ds = r := ⟨_, rfl⟩
                have HC := Lib.hid (fun w h => idle_at (b := b) (w := w) h HG.out es)
                have h3a : Good s3 ∧ Rise s3 g ∧ sr.now ≤ s3.now := by
                  unfold idleE at es
                  cases ha : asked sr ds 0 with
                  | true =>
                    obtain ⟨q, rfl, hq, -, -⟩ := asked_lo ha
                    rw [if_pos ha, Int.toNat_natCast] at es
                    injection es with e1 e2
                    rw [← e1]
                    exact ⟨HG.out.rest _, HR.out.rest hq, put_now _ _ _⟩
                  | false =>
                    rw [if_neg (by rw [ha]; simp)] at es
                    injection es with e1 e2
                    rw [← e1]
                    exact ⟨HG.out, HR.out, Int.le_refl _⟩
                have n1 := h3a.2.2
                have G3 := Lib.hid h3a.1
                have R3 := Lib.hid h3a.2.1
                clear es h3a
                go_wp2_with fail
                refine hnow.mono ?_
                rintro e w3 ⟨rfl, rfl⟩
                go_wp2_with fail
                refine (HC.out _ HH2.out).mono ?_
                rintro e w3 ⟨rfl, h3, k3⟩
                have H3 := Lib.hid h3
                have K3 := Lib.hid k3
                clear h3 k3
                have HW3 := Lib.hid (below_of_only HW2.out hbw K3.out)
                have r1 := R3.out.now
                go_wp2_with fail
                refine (now_any b _ _ H3.out).mono ?_
                rintro e w4 ⟨rfl, rfl⟩
                go_wp2_with fail
                refine (now_any b _ _ H3.out).mono ?_
                rintro e w4 ⟨rfl, rfl⟩
                go_wp2_with fail
                go_roundw
                case rel => exact ⟨i + 1, _, _, by omega, rfl, by go_num, G3.out, R3.out, H3.out, HW3.out⟩
                case measure => simp [intOf]; omega
              · have n3_ : (dd == 3) = false := beq_eq_false_iff_ne.2 d3
                have n1 : sr.now ≤ sr.now := Int.le_refl _
                have G3 := HG
                have R3 := HR
                have H3 := HH2
                have K3 := Lib.hid (only_refl W2 (some b))
                
                go_wp2_with fail
                refine hnow.mono ?_
                rintro e w3 ⟨rfl, rfl⟩
                have HW3 := Lib.hid (below_of_only HW2.out hbw K3.out)
                have r1 := R3.out.now
                go_wp2_with fail
                refine (now_any b _ _ H3.out).mono ?_
                rintro e w4 ⟨rfl, rfl⟩
                go_wp2_with fail
                refine (now_any b _ _ H3.out).mono ?_
                rintro e w4 ⟨rfl, rfl⟩
                go_wp2_with fail
                go_roundw
                case rel => exact ⟨i + 1, _, _, by omega, rfl, by go_num, G3.out, R3.out, H3.out, HW3.out⟩
                case measure => simp [intOf]; omega
        · have t1 : ((i : Int) < (l.length : Int)) = False := eq_false (by omega)
          go_wp2_with fail
          refine (awake_any _).mono ?_
          rintro e w2 ⟨rfl, hb2⟩
          go_wp2_with fail
          go_ret
          exact ⟨rfl, hw.trans (hb2.mono hw.size)⟩
end Go.Proofs.Ytnkfldoejalpkaa.Marks
