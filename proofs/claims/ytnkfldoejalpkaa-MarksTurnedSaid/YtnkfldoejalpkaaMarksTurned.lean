/- Sources are alike, numbered the other way round: the walk of the law. -/
import Derived.Test.YtnkfldoejalpkaaMarksTwice
namespace Go.Proofs.Ytnkfldoejalpkaa.Marks
open Go.RowKit Aid PMarks Txt
def rev (s : St) : St := { s with l := s.l.reverse }
def flip (n : Nat) (o : PMarks.Op) : PMarks.Op := ⟨o.do_, (n : Int) - 1 - o.src, o.t⟩
theorem set_rev (l : List Src) (k : Nat) (x : Src) (hk : k < l.length) : l.reverse.set (l.length - 1 - k) x = (l.set k x).reverse := by
  apply List.ext_getElem
  · simp
  · intro i h1 h2
    simp only [List.length_set, List.length_reverse] at h1 h2
    simp only [List.getElem_set, List.getElem_reverse, List.length_set]
    by_cases e : l.length - 1 - k = i
    · rw [if_pos e, if_pos (by omega)]
    · rw [if_neg e, if_neg (by omega)]
theorem get_rev (l : List Src) (k : Nat) (hk : k < l.length) : l.reverse.getD (l.length - 1 - k) (0, false) = l.getD k (0, false) := by
  rw [List.getD_eq_getElem?_getD, List.getD_eq_getElem?_getD, List.getElem?_reverse (by omega), show l.length - 1 - (l.length - 1 - k) = k by omega]
theorem put_rev (s : St) (k : Nat) (x : Src) (hk : k < s.l.length) : put (rev s) (s.l.length - 1 - k) x = rev (put s k x) := by
  unfold put rev
  dsimp only
  rw [set_rev _ _ _ hk, least_reverse]
theorem tell_rev (s : St) (k : Nat) (t : Int) (hk : k < s.l.length) : tell (rev s) (s.l.length - 1 - k) t = rev (tell s k t) := by
  unfold tell
  rw [show (rev s).l.getD (s.l.length - 1 - k) (0, false) = s.l.getD k (0, false) from get_rev _ _ hk, put_rev _ _ _ hk]
theorem rest_rev (s : St) (k : Nat) (hk : k < s.l.length) : rest (rev s) (s.l.length - 1 - k) = rev (rest s k) := by
  unfold rest
  rw [show (rev s).l.getD (s.l.length - 1 - k) (0, false) = s.l.getD k (0, false) from get_rev _ _ hk, put_rev _ _ _ hk]
theorem asked_rev (s : St) (k t : Int) : asked (rev s) ((s.l.length : Int) - 1 - k) t = asked s k t := by
  rw [Bool.eq_iff_iff, asked_iff, asked_iff]
  have : (rev s).l.length = s.l.length := List.length_reverse
  rw [this]
  omega
theorem nat_rev {s : St} {k : Int} (h0 : 0 ≤ k) (h1 : k < (s.l.length : Int)) : ((s.l.length : Int) - 1 - k).toNat = s.l.length - 1 - k.toNat ∧ k.toNat < s.l.length := by omega
theorem act_rev (s : St) (o : PMarks.Op) (h0 : 0 ≤ o.src) (h1 : o.src < (s.l.length : Int)) : act (rev s) (flip s.l.length o) = rev (act s o) := by
  obtain ⟨e1, e2⟩ := nat_rev h0 h1
  have a1 : ∀ t, asked (rev s) (flip s.l.length o).src t = asked s o.src t := fun t => asked_rev s o.src t
  have e3 : (flip s.l.length o).src.toNat = s.l.length - 1 - o.src.toNat := e1
  unfold PMarks.act see tellE idleE
  rw [a1, a1, e3]
  show (if o.do_ = 1 then (if asked s o.src o.t = true then (tell (rev s) (s.l.length - 1 - o.src.toNat) (o.t - s.bound - 1), decide (o.t ≤ s.now), 0) else (rev s, false, 2)).1 else if o.do_ = 2 then (if asked s o.src o.t = true then (tell (rev s) (s.l.length - 1 - o.src.toNat) o.t, 0) else (rev s, 2)).1 else if o.do_ = 3 then (if asked s o.src 0 = true then (rest (rev s) (s.l.length - 1 - o.src.toNat), 0) else (rev s, 2)).1 else rev s) = _
  rw [tell_rev _ _ _ e2, tell_rev _ _ _ e2, rest_rev _ _ e2]
  split
  · split <;> rfl
  · split
    · split <;> rfl
    · split
      · split <;> rfl
      · rfl
theorem see_rev (s : St) (o : PMarks.Op) : (see (rev s) (flip s.l.length o).src (flip s.l.length o).t).2 = (see s o.src o.t).2 := by
  have e : asked (rev s) (flip s.l.length o).src (flip s.l.length o).t = asked s o.src o.t := asked_rev s o.src o.t
  unfold see
  rw [e]
  split <;> rfl
theorem says_rev (s : St) (o : PMarks.Op) : says (rev s) (flip s.l.length o) = says s o := by
  unfold says
  rw [see_rev]
  rfl
theorem good_rev {s : St} (h : Good s) : Good (rev s) := ⟨by
  have := h.ok
  unfold PMarks.Ok at this ⊢
  show mxo s.now (least s.l.reverse) = s.now
  rw [least_reverse]; exact this, h.lo, h.hi, by show 1 ≤ s.l.reverse.length; rw [List.length_reverse]; exact h.one⟩
theorem rev_mk0 (n : Nat) (bound : Int) : rev (mk0 n bound) = mk0 n bound := by
  unfold rev mk0
  rw [List.reverse_replicate]
theorem lawTurned (n bound : Int) (a : Option Addr) (cap : Nat) (l : List PMarks.Op) (w : World) (ho : OpsAt w a l) :
    Calls Try.prog 5 #[.int .i64 n, .int .i64 bound, .slice a l.length cap] w fun e w' => e = .returned (.bool true) ∧ Below w.heap.size w w' := by
  have HO := Lib.hid ho
  have HL := Lib.hid ho.lt
  clear ho
  cases hf : fit n bound with
  | false =>
    have HN := Lib.hid fun w => new_bad n bound hf w
    clear hf
    go_enter Try.func5, Try.ntmps5
    go_wp2_with fail
    refine (HN.out _).mono ?_
    rintro e w1 ⟨rfl, rfl⟩
    go_wp2_with fail
    refine (HN.out _).mono ?_
    rintro e w1 ⟨rfl, rfl⟩
    go_wp2_with fail
    refine (awake_any _).mono ?_
    rintro e w2 ⟨rfl, hb⟩
    go_wp2_with fail
    go_ret
    exact ⟨rfl, hb⟩
  | true =>
    obtain ⟨q, rfl, q1, q2, q3, q4⟩ := fit_nat hf
    have HN := Lib.hid fun w => new_any q bound q1 q2 q3 q4 w
    have hg := good_mk0 q bound q1 q3 q4
    have hv := rev_mk0 q bound
    have hln : (mk0 q bound).l.length = q := List.length_replicate
    generalize mk0 q bound = s at HN hg hv hln
    by_cases hlen : 200 < l.length
    · have h2 : (200 : Int) < (l.length : Int) := by omega
      clear hf hv hln
      go_enter Try.func5, Try.ntmps5
      go_wp2_with fail
      refine (HN.out _).mono ?_
      rintro e w1 ⟨b, rfl, hb, h0, hB⟩
      go_wp2_with fail
      refine (HN.out _).mono ?_
      rintro e w2 ⟨b2, rfl, hb2, h02, hB2⟩
      go_wp2_with fail
      refine (awake_any _).mono ?_
      rintro e w3 ⟨rfl, hb3⟩
      go_wp2_with fail
      go_ret
      have h1 := hB.trans (hB2.mono hB.size)
      exact ⟨rfl, h1.trans (hb3.mono h1.size)⟩
    · have h2 : (l.length : Int) ≤ 200 := by omega
      have HG := Lib.hid hg
      have HV := Lib.hid hv
      have HQ := Lib.hid hln
      clear hf hg hv hln
      go_enter Try.func5, Try.ntmps5
      go_wp2_with fail
      refine (HN.out _).mono ?_
      rintro e w1 ⟨b, rfl, hb, h0, hB⟩
      go_wp2_with fail
      refine (HN.out _).mono ?_
      rintro e w2 ⟨b2, rfl, hb2, h02, hB2⟩
      have HB0 := Lib.hid (hB.trans (hB2.mono hB.size))
      have hlt := h0.lt
      have H0 := Lib.hid (h0.below hB2 h0.lt)
      have H02 := Lib.hid h02
      have hbw : w.heap.size ≤ b := hb
      have hbw2 : w.heap.size ≤ b2 := Nat.le_trans hB.size hb2
      have hne : b ≠ b2 := by omega
      clear hB hB2 h0 h02 hb hb2 hlt
      go_wp2_with fail
      go_loopw [11] (fun v11 wr => ∃ (i : Nat) (s : St), i ≤ l.length ∧ v11 = .int .i64 i ∧ Good s ∧ s.l.length = q ∧ Held wr b s ∧ Held wr b2 (rev s) ∧ Below w.heap.size w wr) (fun v11 _ => l.length - (intOf v11).toNat)
      case atStart => exact ⟨0, s, by omega, rfl, HG.out, HQ.out, H0.out, by rw [HV.out]; exact H02.out, HB0.out⟩
      case round =>
        clear HG HV HQ H0 H02 HB0 HN
        obtain ⟨i, sr, hi, rfl, hg, hq, hH, hH2, hw⟩ := hrel
        by_cases hlt : i < l.length
        · have t1 : ((i : Int) < (l.length : Int)) = True := eq_true (by omega)
          obtain ⟨ad, rfl, c0, c1, c2⟩ := HO.out.below hw i hlt
          generalize l[i] = o at c0 c1 c2
          obtain ⟨dd, ds, dt⟩ := o
          change wr.cell? ⟨(ad.add (i * 3)).block, (ad.add (i * 3)).off + 1, none⟩ = _ at c1
          change wr.cell? ⟨(ad.add (i * 3)).block, (ad.add (i * 3)).off + 2, none⟩ = _ at c2
          simp only at c0 c1 c2
          have HGS := Lib.hid hg
          have HQS := Lib.hid hq
          have HA := Lib.hid hH
          have HB := Lib.hid hH2
          have HW := Lib.hid hw
          clear hg hq hH hH2 hw
          by_cases g0 : ds < 0
          · go_wp2_with fail
            go_roundw
            case rel => exact ⟨i + 1, sr, by omega, by go_num, HGS.out, HQS.out, HA.out.below ((Below.refl _ _).alloc (Nat.le_refl _) _) HA.out.lt, HB.out.below ((Below.refl _ _).alloc (Nat.le_refl _) _) HB.out.lt, HW.out.alloc HW.out.size _⟩
            case measure => simp [intOf]; omega
          · by_cases g1 : (q : Int) ≤ ds
            · go_wp2_with fail
              go_roundw
              case rel => exact ⟨i + 1, sr, by omega, by go_num, HGS.out, HQS.out, HA.out.below ((Below.refl _ _).alloc (Nat.le_refl _) _) HA.out.lt, HB.out.below ((Below.refl _ _).alloc (Nat.le_refl _) _) HB.out.lt, HW.out.alloc HW.out.size _⟩
              case measure => simp [intOf]; omega
            · have HX := Lib.hid (show ∃ W3 : World, W3 = (wr.alloc (.cells #[.int .i64 dd, .int .i64 ds, .int .i64 dt] 35)).alloc (.cells #[.int .i64 dd, .int .i64 ((q : Int) - 1 - ds), .int .i64 dt] 35) from ⟨_, rfl⟩)
              go_wp2_with fail
              obtain ⟨W3, hW3⟩ := HX.out
              have hs3 : W3.heap.size = wr.heap.size + 1 + 1 := by rw [hW3]; simp
              have hb3 : Below wr.heap.size wr W3 := by rw [hW3]; exact ((Below.refl _ _).alloc (Nat.le_refl _) _).alloc (by simp) _
              have hk3 : Blk W3 (wr.heap.size + 1) 35 #[.int .i64 dd, .int .i64 ((q : Int) - 1 - ds), .int .i64 dt] := by rw [hW3]; exact heap_alloc2_new _ _ _
              have hA3 := HA.out.below hb3 HA.out.lt
              have hB3 := HB.out.below hb3 HB.out.lt
              have hw3 := HW.out.trans (hb3.mono HW.out.size)
              have hal := HA.out.lt
              have hbl := HB.out.lt
              rw [← hW3, ← hs3]
              have d1 := does_one b sr HGS.out W3.heap.size 35 ⟨dd, ds, dt⟩ (W3.alloc (.cells #[.int .i64 dd, .int .i64 ds, .int .i64 dt] 35)) (hA3.below ((Below.refl _ _).alloc (Nat.le_refl _) _) hA3.lt) (Blk.new W3 _ _) (by omega)
              have hB4 := hB3.below ((Below.refl _ _).alloc (Nat.le_refl _) (.cells #[.int .i64 dd, .int .i64 ds, .int .i64 dt] 35)) hB3.lt
              have hk4 := hk3.below ((Below.refl _ _).alloc (Nat.le_refl _) (.cells #[.int .i64 dd, .int .i64 ds, .int .i64 dt] 35)) hk3.lt
              have hw4 := hw3.alloc hw3.size (.cells #[.int .i64 dd, .int .i64 ds, .int .i64 dt] 35)
              refine d1.mono ?_
              clear d1 hW3 HX hb3 hk3 hA3 hB3 hw3 HA HB HW
              rintro e w5 ⟨rfl, h5, k5⟩
              have HK5 := Lib.hid (hk4.grown k5 (by intro e; injection e with e; omega))
              have HB5 := Lib.hid (hB4.grown k5 (by intro e; injection e with e; exact hne e.symm))
              have HA5 := Lib.hid h5
              have HW5 := Lib.hid (below_of_only hw4 (by omega) k5)
              have z0 := (HK5.out.cell 0).trans rfl
              have z1 := (HK5.out.cell 1).trans rfl
              have z2 := (HK5.out.cell 2).trans rfl
              clear hs3 hB4 hk4 hw4 h5 k5 c0 c1 c2 hal
              go_wp2_with fail
              have e1 := act_rev sr ⟨dd, ds, dt⟩ (by show 0 ≤ ds; omega) (by show ds < (sr.l.length : Int); rw [HQS.out]; omega)
              have e2 := says_rev sr ⟨dd, ds, dt⟩
              unfold flip at e1 e2
              rw [HQS.out] at e1 e2
              have hbl5 := HB5.out.lt
              have d2 := does_one b2 (rev sr) (good_rev HGS.out) w5.heap.size 35 ⟨dd, (q : Int) - 1 - ds, dt⟩ (w5.alloc (.cells #[.int .i64 dd, .int .i64 ((q : Int) - 1 - ds), .int .i64 dt] 35)) (HB5.out.below ((Below.refl _ _).alloc (Nat.le_refl _) _) HB5.out.lt) (Blk.new w5 _ _) (by omega)
              rw [e1, e2] at d2
              have hA6 := HA5.out.below ((Below.refl _ _).alloc (Nat.le_refl _) (.cells #[.int .i64 dd, .int .i64 ((q : Int) - 1 - ds), .int .i64 dt] 35)) HA5.out.lt
              have hw6 := HW5.out.alloc HW5.out.size (.cells #[.int .i64 dd, .int .i64 ((q : Int) - 1 - ds), .int .i64 dt] 35)
              have g7 := HGS.out.act ⟨dd, ds, dt⟩
              have n7 : (act sr ⟨dd, ds, dt⟩).l.length = q := by rw [act_length, HQS.out]
              refine d2.mono ?_
              clear d2 e1 e2 HK5 HB5 HA5 HW5 z0 z1 z2
              rintro e w7 ⟨rfl, h7, k7⟩
              generalize act sr ⟨dd, ds, dt⟩ = s7 at h7 hA6 g7 n7
              have HB7 := Lib.hid h7
              have HA7 := Lib.hid (hA6.grown k7 (by intro e; injection e with e; exact hne e))
              have HW7 := Lib.hid (below_of_only hw6 (by omega) k7)
              have G7 := Lib.hid g7
              have N7 := Lib.hid n7
              clear h7 k7 hA6 hw6 g7 n7
              go_wp2_with fail
              refine (now_any b _ _ HA7.out).mono ?_
              rintro e w8 ⟨rfl, rfl⟩
              go_wp2_with fail
              have hn8 := now_any b2 _ _ HB7.out
              change Calls _ _ _ _ fun e w' => e = .returned (.int .i64 s7.now) ∧ _ at hn8
              refine hn8.mono ?_
              rintro e w8 ⟨rfl, rfl⟩
              go_wp2_with fail
              go_roundw
              case rel => exact ⟨i + 1, s7, by omega, by go_num, G7.out, N7.out, HA7.out, HB7.out, HW7.out⟩
              case measure => simp [intOf]; omega
        · have t1 : ((i : Int) < (l.length : Int)) = False := eq_false (by omega)
          go_wp2_with fail
          refine (awake_any _).mono ?_
          rintro e w2 ⟨rfl, hb2⟩
          go_wp2_with fail
          go_ret
          exact ⟨rfl, hw.trans (hb2.mono hw.size)⟩
end Go.Proofs.Ytnkfldoejalpkaa.Marks
