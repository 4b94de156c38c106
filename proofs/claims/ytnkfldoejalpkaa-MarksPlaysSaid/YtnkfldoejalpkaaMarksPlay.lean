/- A call on both, marks and the reference's: they answer the same. -/
import Derived.Test.YtnkfldoejalpkaaMarksH
import Derived.Deep.RegionHeld3
namespace Go.Proofs.Ytnkfldoejalpkaa.Marks
open Go.RowKit Aid PMarks Txt Print Go.Proofs.YtnkfldoejalpkaaW.PrintWords Go.Proofs.YtnkfldoejalpkaaW.PrintMore
theorem below_only {n0 b : Nat} {a w w1 : World} (h : Below n0 a w) (hb : n0 ≤ b) (hn : n0 ≤ w.heap.size) (k : w.grownBy w1 (some b)) : Below n0 a w1 :=
  ⟨k.os.trans h.os, k.tape.trans h.tape, k.output.trans h.output, Nat.le_trans h.size k.size, fun i hi => (k.block i (by omega) (by intro e; injection e with e; omega)).trans (h.block i hi)⟩
/-- both in memory -/
structure Both (n0 : Nat) (w0 w : World) (b g : Nat) (s : St) : Prop where
  held : Held w b s
  ref : ∃ v1 v2, RH w g b s v1 v2
  below : Below n0 w0 w
  n0b : n0 ≤ b
  n0g : n0 ≤ g
  size : n0 ≤ w.heap.size
theorem Both.ne {n0 : Nat} {w0 w : World} {b g : Nat} {s : St} (h : Both n0 w0 w b g s) : g ≠ b := by
  obtain ⟨v1, v2, h2⟩ := h.ref
  exact h2.ne
theorem Both.more {n0 : Nat} {w0 w w1 : World} {b g : Nat} {s : St} (h : Both n0 w0 w b g s) (hb : Below w.heap.size w w1) : Both n0 w0 w1 b g s := by
  obtain ⟨v1, v2, h2⟩ := h.ref
  exact ⟨h.held.below hb h.held.lt, ⟨v1, v2, h2.below hb⟩, h.below.trans (hb.mono h.size), h.n0b, h.n0g, Nat.le_trans h.size hb.size⟩
/-- the marks have become others -/
theorem Both.first {n0 : Nat} {w0 w w1 : World} {b g : Nat} {s s' : St} (h : Both n0 w0 w b g s) (k : w.grownBy w1 (some b)) (h1 : Held w1 b s') : Held w1 b s' ∧ (∃ v1 v2, RH w1 g b s v1 v2) ∧ Below n0 w0 w1 ∧ n0 ≤ w1.heap.size := by
  obtain ⟨v1, v2, h2⟩ := h.ref
  exact ⟨h1, ⟨v1, v2, h2.grown k⟩, below_only h.below h.n0b h.size k, Nat.le_trans h.size k.size⟩
theorem hlt_of {w : World} {b o : Nat} {v : Value} (h : w.cell? ⟨b, o, none⟩ = some v) : b < w.heap.size := World.block_lt_of_cell? w ⟨b, o, none⟩ h
theorem kept_bound {g b : Nat} {s : St} {k : Nat} {t : Int} {w : World} (h : ∃ v1 v2, RH w g b (tell s k t) v1 v2) : w.cell? ⟨g, 0, none⟩ = some (.int .i64 s.bound) := by
  obtain ⟨v1, v2, h2⟩ := h
  exact h2.bound
set_option maxRecDepth 100000 in
set_option maxHeartbeats 4000000 in
theorem play_any (n0 : Nat) (w0 : World) (b g : Nat) (s : St) (o : PMarks.Op) (w : World) (hg : Good s) (h : Both n0 w0 w b g s) :
    Calls Try.prog 22 #[.pointer (some ⟨b, 0, none⟩), .pointer (some ⟨g, 0, none⟩), .agg #[.int .i64 o.do_, .int .i64 o.src, .int .i64 o.t]] w fun e w' => e = .returned (.bool true) ∧ Both n0 w0 w' b g (act s o) := by
  obtain ⟨dd, ds, dt⟩ := o
  have hK := Blk.new w 35 #[.int .i64 dd, .int .i64 ds, .int .i64 dt]
  have hM := h.more ((Below.refl w.heap.size w).alloc (Nat.le_refl _) (.cells #[.int .i64 dd, .int .i64 ds, .int .i64 dt] 35))
  have hcb : w.heap.size ≠ b := by have := h.held.lt; omega
  have hcg : w.heap.size ≠ g := by obtain ⟨_, _, h2⟩ := h.ref; have := h2.lt; omega
  have hle := h.held.le
  have ha := asked_iff s ds dt
  have ha0 := asked_iff s ds 0
  unfold PMarks.T at ha ha0
  have b0 := hg.lo
  have b1 := hg.hi
  have hgb := h.ne
  have HG := Lib.hid hg
  have HAI := Lib.hid ha
  have HAI0 := Lib.hid ha0
  clear h hg ha ha0
  have HM := Lib.hid hM
  have HK := Lib.hid hK
  clear hM hK
  by_cases d1 : dd = 1
  · subst d1
    cases hA : asked s ds dt with
    | true =>
      obtain ⟨q, rfl, hq, t0, t9⟩ := asked_lo hA
      have hle2 : s.l.length ≤ 16 := hle
      obtain ⟨late, hl⟩ : ∃ late, late = decide (dt ≤ s.now) := ⟨_, rfl⟩
      have es : see s (q : Int) dt = (tell s q (dt - s.bound - 1), late, 0) := by unfold see; rw [if_pos hA, Int.toNat_natCast, hl]
      have HS := Lib.hid es
      have HE := Lib.hid (show act s ⟨1, (q : Int), dt⟩ = tell s q (dt - s.bound - 1) from by unfold PMarks.act; rw [if_pos rfl, es])
      have HL := Lib.hid hl
      clear es hl
      go_enter Try.func22, Try.ntmps22
      go_wp2_with fail
      generalize w.alloc _ = W1 at HM HK ⊢
      generalize w.heap.size = c at HK hcb hcg ⊢
      obtain ⟨v1, v2, hr⟩ := HM.out.ref
      obtain ⟨A1, c1, A2, c2, rfl, rfl, l1, l2, C1, C2⟩ := hr.len
      have q0 := hr.bound
      have q1 := hr.now
      have q2 := hr.c2
      have q3 := hr.c3
      have k0 := (HK.out.cell 0).trans rfl
      have k1 := (HK.out.cell 1).trans rfl
      have k2 := (HK.out.cell 2).trans rfl
      have HMay := Lib.hid fun (w' : World) (x1 : Kd.C (Kd.int .i64) w' A1 s.l.length (s.l.map (·.1))) (x2 : Kd.C Kd.bool w' A2 s.l.length (s.l.map (·.2))) => rmay_any s (q : Int) dt A1 A2 c1 c2 w' x1 x2 l1 l2
      rw [hA] at HMay
      have HC1 := Lib.hid C1
      have HC2 := Lib.hid C2
      have HR := Lib.hid hr
      clear C1 C2 hr l1 l2
      have hgl := hlt_of q0
      have hcl := hlt_of k0
      go_region_held3 (fun w' => w'.cell? ⟨g, 0, none⟩ = some (.int .i64 s.bound) ∧ w'.cell? ⟨g, 1, none⟩ = some (.int .i64 s.now) ∧ w'.cell? ⟨g, 2, none⟩ = some (.slice A1 s.l.length c1) ∧ w'.cell? ⟨g, 3, none⟩ = some (.slice A2 s.l.length c2) ∧ w'.cell? ⟨c, 1, none⟩ = some (.int .i64 (q : Int)) ∧ w'.cell? ⟨c, 2, none⟩ = some (.int .i64 dt)) (first | exact ⟨y0, y1, y2, y3, y4, y5⟩ | exact ⟨q0, q1, q2, q3, k1, k2⟩)
        (first | (go_at_call 35; (with_reducible refine (HMay.out _ (by first | exact HC1.out | exact Kd.C_drew HC1.out) (by first | exact HC2.out | exact Kd.C_drew HC2.out)).mono ?_); rintro e w' ⟨rfl, hb1_⟩; have hb' : Below W1.heap.size W1 w' := (by first | exact hb1_ | exact (Below.refl _ _).drew.trans hb1_); have y0 := pw_cell_below hb' q0; have y1 := pw_cell_below hb' q1; have y2 := pw_cell_below hb' q2; have y3 := pw_cell_below hb' q3; have y4 := pw_cell_below hb' k1; have y5 := pw_cell_below hb' k2; clear hb1_))
      clear q0 q1 q2 q3 k0 k1 k2 HMay HC1 HC2 HR y0 y1 y2 y3 y4 y5 hgl hcl
      have hM2 : Both n0 w0 w' b g s := HM.out.more hb'
      have hK2 : Blk w' c 35 #[.int .i64 1, .int .i64 (q : Int), .int .i64 dt] := HK.out.below (B := W1.heap.size) hb' HK.out.lt
      clear hb' HM HK
      have HM := Lib.hid hM2
      have HK := Lib.hid hK2
      clear hM2 hK2
      have k0 := (HK.out.cell 0).trans rfl
      have k1 := (HK.out.cell 1).trans rfl
      have k2 := (HK.out.cell 2).trans rfl
      clear hA
      have HC := Lib.hid (see_at HM.out.held HG.out HS.out)
      go_wp2_with fail
      refine (HC.out).mono ?_
      rintro e w3 ⟨rfl, h3, k3⟩
      obtain ⟨x1, x2, x3, x4⟩ := HM.out.first k3 h3
      have hk3 := HK.out.grown k3 (by intro e; injection e with e; exact hcb e)
      have n0b := HM.out.n0b
      have n0g := HM.out.n0g
      clear k0 k1 k2 h3 k3 HC
      obtain ⟨v1, v2, hr3⟩ := x2
      have q0 := hr3.bound
      have q1 := hr3.now
      have k1 := (hk3.cell 1).trans rfl
      have k2 := (hk3.cell 2).trans rfl
      have X1 := Lib.hid x1
      have X3 := Lib.hid x3
      have HR := Lib.hid hr3
      have HK3 := Lib.hid hk3
      have hbl := x1.lt
      clear x1 x3 hr3 hk3
      go_wp2_with fail
      go_quiet (fail)
      go_wp2_with fail
      have X1q := Lib.hid (X1.out.of_block (w' := w3.drewN nq) rfl)
      have X3q := Lib.hid (below_drewN X3.out nq)
      have HRq := Lib.hid (show RH (w3.drewN nq) g b s v1 v2 from HR.out.grown (only_drewN (only_refl _ _) nq))
      have HKq := Lib.hid (HK3.out.drewN nq)
      have x4q : n0 ≤ (w3.drewN nq).heap.size := x4
      have hblq : b < (w3.drewN nq).heap.size := hbl
      have q0q := HRq.out.bound
      have k1q := (HKq.out.cell 1).trans rfl
      have k2q := (HKq.out.cell 2).trans rfl
      clear q0 q1 k1 k2 X1 X3 HR HK3 x4 hbl
      generalize w3.drewN nq = w4 at X1q X3q HRq HKq x4q hblq q0q k1q k2q ⊢
      have s1 : IntKind.i64.wrap (dt - s.bound) = dt - s.bound := by rw [IntKind.wrap_i64]; omega
      have s2 : IntKind.i64.wrap (dt - s.bound - 1) = dt - s.bound - 1 := by rw [IntKind.wrap_i64]; omega
      have hblqd : b < w4.drew.heap.size := hblq
      have HT := Lib.hid fun w hh hbb => rtell_any g b q s (dt - s.bound - 1) v1 v2 w hh hq hle2 hbb
      go_region_held3 (fun w' => w'.cell? ⟨g, 0, none⟩ = some (.int .i64 s.bound) ∧ w'.cell? ⟨c, 1, none⟩ = some (.int .i64 (q : Int)) ∧ w'.cell? ⟨c, 2, none⟩ = some (.int .i64 dt)) (first | exact ⟨q0q, k1q, k2q⟩ | exact ⟨z0, z1, z2⟩)
        (first | (go_at_call 36; (with_reducible refine (HT.out _ (by first | exact HRq.out | exact HRq.out.grown (only_drew (only_refl _ _))) (by first | exact hblq | exact hblqd)).mono ?_); rintro e w5 ⟨rfl, hr5, k5_⟩; have k5 : w4.grownBy w5 (some g) := (by first | exact k5_ | exact only_trans (only_drew (only_refl _ _)) k5_); clear k5_; have zk := HKq.out.grown k5 (by intro e; injection e with e; exact hcg e); have z1 := (zk.cell 1).trans rfl; have z2 := (zk.cell 2).trans rfl; have z0 := kept_bound hr5))
      clear q0q k1q k2q s1 s2 HT z0 z1 z2 zk
      have hb9 : Held w5 b (tell s q (dt - s.bound - 1)) := X1q.out.grown k5 (by intro e; injection e with e; exact hgb e.symm)
      have HF := Lib.hid (show Both n0 w0 w5 b g (tell s q (dt - s.bound - 1)) from ⟨hb9, hr5, below_only X3q.out n0g x4q k5, n0b, n0g, Nat.le_trans x4q k5.size⟩)
      clear hb9 hr5 k5
      clear X1q X3q HRq HKq
      have hlate := HL.out
      clear HL
      cases hd : decide (dt ≤ s.now) with
      | true =>
        rw [hd] at hlate
        subst hlate
        clear hd
        go_wp2_with fail
        go_ret
        refine ⟨rfl, ?_⟩
        rw [HE.out]
        exact HF.out
      | false =>
        rw [hd] at hlate
        subst hlate
        clear hd
        go_wp2_with fail
        go_ret
        refine ⟨rfl, ?_⟩
        rw [HE.out]
        exact HF.out
    | false =>
      have es : see s ds dt = (s, false, 2) := by unfold see; rw [if_neg (by rw [hA]; simp)]
      have HS := Lib.hid es
      have HE := Lib.hid (show act s ⟨1, ds, dt⟩ = s from by unfold PMarks.act; rw [if_pos rfl, es])
      clear es
      go_enter Try.func22, Try.ntmps22
      go_wp2_with fail
      generalize w.alloc _ = W1 at HM HK ⊢
      generalize w.heap.size = c at HK hcb hcg ⊢
      obtain ⟨v1, v2, hr⟩ := HM.out.ref
      obtain ⟨A1, c1, A2, c2, rfl, rfl, l1, l2, C1, C2⟩ := hr.len
      have q0 := hr.bound
      have q1 := hr.now
      have q2 := hr.c2
      have q3 := hr.c3
      have k0 := (HK.out.cell 0).trans rfl
      have k1 := (HK.out.cell 1).trans rfl
      have k2 := (HK.out.cell 2).trans rfl
      have HMay := Lib.hid fun (w' : World) (x1 : Kd.C (Kd.int .i64) w' A1 s.l.length (s.l.map (·.1))) (x2 : Kd.C Kd.bool w' A2 s.l.length (s.l.map (·.2))) => rmay_any s ds dt A1 A2 c1 c2 w' x1 x2 l1 l2
      rw [hA] at HMay
      have HC1 := Lib.hid C1
      have HC2 := Lib.hid C2
      have HR := Lib.hid hr
      clear C1 C2 hr l1 l2
      have hgl := hlt_of q0
      have hcl := hlt_of k0
      go_region_held3 (fun w' => w'.cell? ⟨g, 0, none⟩ = some (.int .i64 s.bound) ∧ w'.cell? ⟨g, 1, none⟩ = some (.int .i64 s.now) ∧ w'.cell? ⟨g, 2, none⟩ = some (.slice A1 s.l.length c1) ∧ w'.cell? ⟨g, 3, none⟩ = some (.slice A2 s.l.length c2) ∧ w'.cell? ⟨c, 1, none⟩ = some (.int .i64 ds) ∧ w'.cell? ⟨c, 2, none⟩ = some (.int .i64 dt)) (first | exact ⟨y0, y1, y2, y3, y4, y5⟩ | exact ⟨q0, q1, q2, q3, k1, k2⟩)
        (first | (go_at_call 35; (with_reducible refine (HMay.out _ (by first | exact HC1.out | exact Kd.C_drew HC1.out) (by first | exact HC2.out | exact Kd.C_drew HC2.out)).mono ?_); rintro e w' ⟨rfl, hb1_⟩; have hb' : Below W1.heap.size W1 w' := (by first | exact hb1_ | exact (Below.refl _ _).drew.trans hb1_); have y0 := pw_cell_below hb' q0; have y1 := pw_cell_below hb' q1; have y2 := pw_cell_below hb' q2; have y3 := pw_cell_below hb' q3; have y4 := pw_cell_below hb' k1; have y5 := pw_cell_below hb' k2; clear hb1_))
      clear q0 q1 q2 q3 k0 k1 k2 HMay HC1 HC2 HR y0 y1 y2 y3 y4 y5 hgl hcl
      have hM2 : Both n0 w0 w' b g s := HM.out.more hb'
      have hK2 : Blk w' c 35 #[.int .i64 1, .int .i64 ds, .int .i64 dt] := HK.out.below (B := W1.heap.size) hb' HK.out.lt
      clear hb' HM HK
      have HM := Lib.hid hM2
      have HK := Lib.hid hK2
      clear hM2 hK2
      have k0 := (HK.out.cell 0).trans rfl
      have k1 := (HK.out.cell 1).trans rfl
      have k2 := (HK.out.cell 2).trans rfl
      clear hA
      have HC := Lib.hid (see_at HM.out.held HG.out HS.out)
      go_wp2_with fail
      refine (HC.out).mono ?_
      rintro e w3 ⟨rfl, h3, k3⟩
      obtain ⟨x1, x2, x3, x4⟩ := HM.out.first k3 h3
      have hk3 := HK.out.grown k3 (by intro e; injection e with e; exact hcb e)
      have n0b := HM.out.n0b
      have n0g := HM.out.n0g
      clear k0 k1 k2 h3 k3 HC
      have HF := Lib.hid (show Both n0 w0 w3 b g (s) from ⟨x1, x2, x3, n0b, n0g, x4⟩)
      clear x1 x2 x3 x4 hk3 n0b n0g
      go_wp2_with fail
      go_ret
      refine ⟨rfl, ?_⟩
      rw [HE.out]
      exact HF.out
  · have n1_ : (dd == 1) = false := beq_eq_false_iff_ne.2 d1
    by_cases d2 : dd = 2
    · subst d2
      cases hA : asked s ds dt with
      | true =>
        obtain ⟨q, rfl, hq, t0, t9⟩ := asked_lo hA
        have hle2 : s.l.length ≤ 16 := hle
        have es : tellE s (q : Int) dt = (tell s q dt, 0) := by unfold tellE; rw [if_pos hA, Int.toNat_natCast]
        have HS := Lib.hid es
        have HE := Lib.hid (show act s ⟨2, (q : Int), dt⟩ = tell s q dt from by unfold PMarks.act; rw [if_neg (by show ¬ (2 : Int) = 1; decide), if_pos rfl, es])
        clear es
        go_enter Try.func22, Try.ntmps22
        go_wp2_with fail
        generalize w.alloc _ = W1 at HM HK ⊢
        generalize w.heap.size = c at HK hcb hcg ⊢
        obtain ⟨v1, v2, hr⟩ := HM.out.ref
        obtain ⟨A1, c1, A2, c2, rfl, rfl, l1, l2, C1, C2⟩ := hr.len
        have q0 := hr.bound
        have q1 := hr.now
        have q2 := hr.c2
        have q3 := hr.c3
        have k0 := (HK.out.cell 0).trans rfl
        have k1 := (HK.out.cell 1).trans rfl
        have k2 := (HK.out.cell 2).trans rfl
        have HMay := Lib.hid fun (w' : World) (x1 : Kd.C (Kd.int .i64) w' A1 s.l.length (s.l.map (·.1))) (x2 : Kd.C Kd.bool w' A2 s.l.length (s.l.map (·.2))) => rmay_any s (q : Int) dt A1 A2 c1 c2 w' x1 x2 l1 l2
        rw [hA] at HMay
        have HC1 := Lib.hid C1
        have HC2 := Lib.hid C2
        have HR := Lib.hid hr
        clear C1 C2 hr l1 l2
        have hgl := hlt_of q0
        have hcl := hlt_of k0
        go_region_held3 (fun w' => w'.cell? ⟨g, 0, none⟩ = some (.int .i64 s.bound) ∧ w'.cell? ⟨g, 1, none⟩ = some (.int .i64 s.now) ∧ w'.cell? ⟨g, 2, none⟩ = some (.slice A1 s.l.length c1) ∧ w'.cell? ⟨g, 3, none⟩ = some (.slice A2 s.l.length c2) ∧ w'.cell? ⟨c, 1, none⟩ = some (.int .i64 (q : Int)) ∧ w'.cell? ⟨c, 2, none⟩ = some (.int .i64 dt)) (first | exact ⟨y0, y1, y2, y3, y4, y5⟩ | exact ⟨q0, q1, q2, q3, k1, k2⟩)
          (first | (go_at_call 35; (with_reducible refine (HMay.out _ (by first | exact HC1.out | exact Kd.C_drew HC1.out) (by first | exact HC2.out | exact Kd.C_drew HC2.out)).mono ?_); rintro e w' ⟨rfl, hb1_⟩; have hb' : Below W1.heap.size W1 w' := (by first | exact hb1_ | exact (Below.refl _ _).drew.trans hb1_); have y0 := pw_cell_below hb' q0; have y1 := pw_cell_below hb' q1; have y2 := pw_cell_below hb' q2; have y3 := pw_cell_below hb' q3; have y4 := pw_cell_below hb' k1; have y5 := pw_cell_below hb' k2; clear hb1_))
        clear q0 q1 q2 q3 k0 k1 k2 HMay HC1 HC2 HR y0 y1 y2 y3 y4 y5 hgl hcl
        have hM2 : Both n0 w0 w' b g s := HM.out.more hb'
        have hK2 : Blk w' c 35 #[.int .i64 2, .int .i64 (q : Int), .int .i64 dt] := HK.out.below (B := W1.heap.size) hb' HK.out.lt
        clear hb' HM HK
        have HM := Lib.hid hM2
        have HK := Lib.hid hK2
        clear hM2 hK2
        have k0 := (HK.out.cell 0).trans rfl
        have k1 := (HK.out.cell 1).trans rfl
        have k2 := (HK.out.cell 2).trans rfl
        clear hA
        have HC := Lib.hid (tell_at HM.out.held HG.out HS.out)
        go_wp2_with fail
        refine (HC.out).mono ?_
        rintro e w3 ⟨rfl, h3, k3⟩
        obtain ⟨x1, x2, x3, x4⟩ := HM.out.first k3 h3
        have hk3 := HK.out.grown k3 (by intro e; injection e with e; exact hcb e)
        have n0b := HM.out.n0b
        have n0g := HM.out.n0g
        clear k0 k1 k2 h3 k3 HC
        obtain ⟨v1, v2, hr3⟩ := x2
        have q0 := hr3.bound
        have q1 := hr3.now
        have k1 := (hk3.cell 1).trans rfl
        have k2 := (hk3.cell 2).trans rfl
        have X1 := Lib.hid x1
        have X3 := Lib.hid x3
        have HR := Lib.hid hr3
        have HK3 := Lib.hid hk3
        have hbl := x1.lt
        clear x1 x3 hr3 hk3
        have HT := Lib.hid fun w hh hbb => rtell_any g b q s dt v1 v2 w hh hq hle2 hbb
        go_wp2_with fail
        refine (HT.out _ HR.out hbl).mono ?_
        rintro e w5 ⟨rfl, hr5, k5⟩
        clear q0 q1 k1 k2 HT
        have hx4 := x4
        have X1q := X1
        have X3q := X3
        have HRq := HR
        have HKq := HK3
        have x4q := hx4
        have hblq := hbl
        have hb9 : Held w5 b (tell s q dt) := X1q.out.grown k5 (by intro e; injection e with e; exact hgb e.symm)
        have HF := Lib.hid (show Both n0 w0 w5 b g (tell s q dt) from ⟨hb9, hr5, below_only X3q.out n0g x4q k5, n0b, n0g, Nat.le_trans x4q k5.size⟩)
        clear hb9 hr5 k5
        clear X1q X3q HRq HKq X1 X3 HR HK3
        go_wp2_with fail
        go_ret
        refine ⟨rfl, ?_⟩
        rw [HE.out]
        exact HF.out
      | false =>
        have es : tellE s ds dt = (s, 2) := by unfold tellE; rw [if_neg (by rw [hA]; simp)]
        have HS := Lib.hid es
        have HE := Lib.hid (show act s ⟨2, ds, dt⟩ = s from by unfold PMarks.act; rw [if_neg (by show ¬ (2 : Int) = 1; decide), if_pos rfl, es])
        clear es
        go_enter Try.func22, Try.ntmps22
        go_wp2_with fail
        generalize w.alloc _ = W1 at HM HK ⊢
        generalize w.heap.size = c at HK hcb hcg ⊢
        obtain ⟨v1, v2, hr⟩ := HM.out.ref
        obtain ⟨A1, c1, A2, c2, rfl, rfl, l1, l2, C1, C2⟩ := hr.len
        have q0 := hr.bound
        have q1 := hr.now
        have q2 := hr.c2
        have q3 := hr.c3
        have k0 := (HK.out.cell 0).trans rfl
        have k1 := (HK.out.cell 1).trans rfl
        have k2 := (HK.out.cell 2).trans rfl
        have HMay := Lib.hid fun (w' : World) (x1 : Kd.C (Kd.int .i64) w' A1 s.l.length (s.l.map (·.1))) (x2 : Kd.C Kd.bool w' A2 s.l.length (s.l.map (·.2))) => rmay_any s ds dt A1 A2 c1 c2 w' x1 x2 l1 l2
        rw [hA] at HMay
        have HC1 := Lib.hid C1
        have HC2 := Lib.hid C2
        have HR := Lib.hid hr
        clear C1 C2 hr l1 l2
        have hgl := hlt_of q0
        have hcl := hlt_of k0
        go_region_held3 (fun w' => w'.cell? ⟨g, 0, none⟩ = some (.int .i64 s.bound) ∧ w'.cell? ⟨g, 1, none⟩ = some (.int .i64 s.now) ∧ w'.cell? ⟨g, 2, none⟩ = some (.slice A1 s.l.length c1) ∧ w'.cell? ⟨g, 3, none⟩ = some (.slice A2 s.l.length c2) ∧ w'.cell? ⟨c, 1, none⟩ = some (.int .i64 ds) ∧ w'.cell? ⟨c, 2, none⟩ = some (.int .i64 dt)) (first | exact ⟨y0, y1, y2, y3, y4, y5⟩ | exact ⟨q0, q1, q2, q3, k1, k2⟩)
          (first | (go_at_call 35; (with_reducible refine (HMay.out _ (by first | exact HC1.out | exact Kd.C_drew HC1.out) (by first | exact HC2.out | exact Kd.C_drew HC2.out)).mono ?_); rintro e w' ⟨rfl, hb1_⟩; have hb' : Below W1.heap.size W1 w' := (by first | exact hb1_ | exact (Below.refl _ _).drew.trans hb1_); have y0 := pw_cell_below hb' q0; have y1 := pw_cell_below hb' q1; have y2 := pw_cell_below hb' q2; have y3 := pw_cell_below hb' q3; have y4 := pw_cell_below hb' k1; have y5 := pw_cell_below hb' k2; clear hb1_))
        clear q0 q1 q2 q3 k0 k1 k2 HMay HC1 HC2 HR y0 y1 y2 y3 y4 y5 hgl hcl
        have hM2 : Both n0 w0 w' b g s := HM.out.more hb'
        have hK2 : Blk w' c 35 #[.int .i64 2, .int .i64 ds, .int .i64 dt] := HK.out.below (B := W1.heap.size) hb' HK.out.lt
        clear hb' HM HK
        have HM := Lib.hid hM2
        have HK := Lib.hid hK2
        clear hM2 hK2
        have k0 := (HK.out.cell 0).trans rfl
        have k1 := (HK.out.cell 1).trans rfl
        have k2 := (HK.out.cell 2).trans rfl
        clear hA
        have HC := Lib.hid (tell_at HM.out.held HG.out HS.out)
        go_wp2_with fail
        refine (HC.out).mono ?_
        rintro e w3 ⟨rfl, h3, k3⟩
        obtain ⟨x1, x2, x3, x4⟩ := HM.out.first k3 h3
        have hk3 := HK.out.grown k3 (by intro e; injection e with e; exact hcb e)
        have n0b := HM.out.n0b
        have n0g := HM.out.n0g
        clear k0 k1 k2 h3 k3 HC
        have HF := Lib.hid (show Both n0 w0 w3 b g (s) from ⟨x1, x2, x3, n0b, n0g, x4⟩)
        clear x1 x2 x3 x4 hk3 n0b n0g
        go_wp2_with fail
        go_ret
        refine ⟨rfl, ?_⟩
        rw [HE.out]
        exact HF.out
    · have n2_ : (dd == 2) = false := beq_eq_false_iff_ne.2 d2
      by_cases d3 : dd = 3
      · subst d3
        cases hA : asked s ds 0 with
        | true =>
          have hA2 := HAI0.out.1 hA
          obtain ⟨q, rfl, hq, t0, t9⟩ := asked_lo hA
          have hle2 : s.l.length ≤ 16 := hle
          have es : idleE s (q : Int) = (rest s q, 0) := by unfold idleE; rw [if_pos hA, Int.toNat_natCast]
          have HS := Lib.hid es
          have HE := Lib.hid (show act s ⟨3, (q : Int), dt⟩ = rest s q from by unfold PMarks.act; rw [if_neg (by show ¬ (3 : Int) = 1; decide), if_neg (by show ¬ (3 : Int) = 2; decide), if_pos rfl, es])
          clear es hA hA2
          obtain ⟨mb, hmb⟩ : ∃ mb, asked s (q : Int) dt = mb := ⟨_, rfl⟩
          go_enter Try.func22, Try.ntmps22
          go_wp2_with fail
          generalize w.alloc _ = W1 at HM HK ⊢
          generalize w.heap.size = c at HK hcb hcg ⊢
          obtain ⟨v1, v2, hr⟩ := HM.out.ref
          obtain ⟨A1, c1, A2, c2, rfl, rfl, l1, l2, C1, C2⟩ := hr.len
          have q0 := hr.bound
          have q1 := hr.now
          have q2 := hr.c2
          have q3 := hr.c3
          have k0 := (HK.out.cell 0).trans rfl
          have k1 := (HK.out.cell 1).trans rfl
          have k2 := (HK.out.cell 2).trans rfl
          have HMay := Lib.hid fun (w' : World) (x1 : Kd.C (Kd.int .i64) w' A1 s.l.length (s.l.map (·.1))) (x2 : Kd.C Kd.bool w' A2 s.l.length (s.l.map (·.2))) => rmay_any s (q : Int) dt A1 A2 c1 c2 w' x1 x2 l1 l2
          rw [hmb] at HMay
          have HC1 := Lib.hid C1
          have HC2 := Lib.hid C2
          have HR := Lib.hid hr
          clear C1 C2 hr l1 l2
          have hgl := hlt_of q0
          have hcl := hlt_of k0
          go_region_held3 (fun w' => w'.cell? ⟨g, 0, none⟩ = some (.int .i64 s.bound) ∧ w'.cell? ⟨g, 1, none⟩ = some (.int .i64 s.now) ∧ w'.cell? ⟨g, 2, none⟩ = some (.slice A1 s.l.length c1) ∧ w'.cell? ⟨g, 3, none⟩ = some (.slice A2 s.l.length c2) ∧ w'.cell? ⟨c, 1, none⟩ = some (.int .i64 (q : Int)) ∧ w'.cell? ⟨c, 2, none⟩ = some (.int .i64 dt)) (first | exact ⟨y0, y1, y2, y3, y4, y5⟩ | exact ⟨q0, q1, q2, q3, k1, k2⟩)
            (first | (go_at_call 35; (with_reducible refine (HMay.out _ (by first | exact HC1.out | exact Kd.C_drew HC1.out) (by first | exact HC2.out | exact Kd.C_drew HC2.out)).mono ?_); rintro e w' ⟨rfl, hb1_⟩; have hb' : Below W1.heap.size W1 w' := (by first | exact hb1_ | exact (Below.refl _ _).drew.trans hb1_); have y0 := pw_cell_below hb' q0; have y1 := pw_cell_below hb' q1; have y2 := pw_cell_below hb' q2; have y3 := pw_cell_below hb' q3; have y4 := pw_cell_below hb' k1; have y5 := pw_cell_below hb' k2; clear hb1_))
          clear q0 q1 q2 q3 k0 k1 k2 HMay HC1 HC2 HR y0 y1 y2 y3 y4 y5 hgl hcl
          have hM2 : Both n0 w0 w' b g s := HM.out.more hb'
          have hK2 : Blk w' c 35 #[.int .i64 3, .int .i64 (q : Int), .int .i64 dt] := HK.out.below (B := W1.heap.size) hb' HK.out.lt
          clear hb' HM HK
          have HM := Lib.hid hM2
          have HK := Lib.hid hK2
          clear hM2 hK2
          have k0 := (HK.out.cell 0).trans rfl
          have k1 := (HK.out.cell 1).trans rfl
          have k2 := (HK.out.cell 2).trans rfl
          clear hmb
          have HC := Lib.hid (idle_at HM.out.held HG.out HS.out)
          go_wp2_with fail
          refine (HC.out).mono ?_
          rintro e w3 ⟨rfl, h3, k3⟩
          obtain ⟨x1, x2, x3, x4⟩ := HM.out.first k3 h3
          have hk3 := HK.out.grown k3 (by intro e; injection e with e; exact hcb e)
          have n0b := HM.out.n0b
          have n0g := HM.out.n0g
          clear k0 k1 k2 h3 k3 HC
          obtain ⟨v1, v2, hr3⟩ := x2
          have q0 := hr3.bound
          have q1 := hr3.now
          have k1 := (hk3.cell 1).trans rfl
          have k2 := (hk3.cell 2).trans rfl
          have X1 := Lib.hid x1
          have X3 := Lib.hid x3
          have HR := Lib.hid hr3
          have HK3 := Lib.hid hk3
          have hbl := x1.lt
          clear x1 x3 hr3 hk3
          obtain ⟨A3, d3, A4, d4, rfl, rfl, l3, l4, C3, C4⟩ := HR.out.len
          have q2 := HR.out.c2
          clear l3 l4 C3 C4
          have u1 : ((q : Int) < 0) = False := eq_false (by omega)
          have u2 : decide ((s.l.length : Int) ≤ (q : Int)) = false := decide_eq_false (by omega)
          have u3 : (q : Int) < (s.l.length : Int) := by omega
          have u4 : 0 ≤ (q : Int) := by omega
          go_wp2_with fail
          go_quiet (fail)
          go_wp2_with fail
          have X1q := Lib.hid (X1.out.of_block (w' := w3.drewN nq) rfl)
          have X3q := Lib.hid (below_drewN X3.out nq)
          have HRq := Lib.hid (show RH (w3.drewN nq) g b s _ _ from HR.out.grown (only_drewN (only_refl _ _) nq))
          have HKq := Lib.hid (HK3.out.drewN nq)
          have x4q : n0 ≤ (w3.drewN nq).heap.size := x4
          have hblq : b < (w3.drewN nq).heap.size := hbl
          have q0q := HRq.out.bound
          have k1q := (HKq.out.cell 1).trans rfl
          have k2q := (HKq.out.cell 2).trans rfl
          clear q0 q1 k1 k2 X1 X3 HR HK3 x4 hbl
          generalize w3.drewN nq = w4 at X1q X3q HRq HKq x4q hblq q0q k1q k2q ⊢
          have HT := Lib.hid fun w hh hbb => rrest_any g b q s (.slice A3 s.l.length d3) (.slice A4 s.l.length d4) w hh hq hle2 hbb
          refine (HT.out _ HRq.out hblq).mono ?_
          rintro e w5 ⟨rfl, hr5, k5⟩
          clear HT q2 q0q k1q k2q
          have hb9 : Held w5 b (rest s q) := X1q.out.grown k5 (by intro e; injection e with e; exact hgb e.symm)
          have HF := Lib.hid (show Both n0 w0 w5 b g (rest s q) from ⟨hb9, hr5, below_only X3q.out n0g x4q k5, n0b, n0g, Nat.le_trans x4q k5.size⟩)
          clear hb9 hr5 k5
          clear X1q X3q HRq HKq
          go_wp2_with fail
          go_ret
          refine ⟨rfl, ?_⟩
          rw [HE.out]
          exact HF.out
        | false =>
          have hA3 : ds < 0 ∨ (s.l.length : Int) ≤ ds := by
            rcases Int.lt_or_le ds 0 with h | h
            · exact .inl h
            · rcases Int.lt_or_le ds (s.l.length : Int) with h2 | h2
              · exact absurd (HAI0.out.2 ⟨h, h2, by omega, by omega⟩) (by rw [hA]; simp)
              · exact .inr h2
          by_cases g0 : ds < 0
          · clear hA3
            have es : idleE s ds = (s, 2) := by unfold idleE; rw [if_neg (by rw [hA]; simp)]
            have HS := Lib.hid es
            have HE := Lib.hid (show act s ⟨3, ds, dt⟩ = s from by unfold PMarks.act; rw [if_neg (by show ¬ (3 : Int) = 1; decide), if_neg (by show ¬ (3 : Int) = 2; decide), if_pos rfl, es])
            clear es hA
            obtain ⟨mb, hmb⟩ : ∃ mb, asked s ds dt = mb := ⟨_, rfl⟩
            go_enter Try.func22, Try.ntmps22
            go_wp2_with fail
            generalize w.alloc _ = W1 at HM HK ⊢
            generalize w.heap.size = c at HK hcb hcg ⊢
            obtain ⟨v1, v2, hr⟩ := HM.out.ref
            obtain ⟨A1, c1, A2, c2, rfl, rfl, l1, l2, C1, C2⟩ := hr.len
            have q0 := hr.bound
            have q1 := hr.now
            have q2 := hr.c2
            have q3 := hr.c3
            have k0 := (HK.out.cell 0).trans rfl
            have k1 := (HK.out.cell 1).trans rfl
            have k2 := (HK.out.cell 2).trans rfl
            have HMay := Lib.hid fun (w' : World) (x1 : Kd.C (Kd.int .i64) w' A1 s.l.length (s.l.map (·.1))) (x2 : Kd.C Kd.bool w' A2 s.l.length (s.l.map (·.2))) => rmay_any s ds dt A1 A2 c1 c2 w' x1 x2 l1 l2
            rw [hmb] at HMay
            have HC1 := Lib.hid C1
            have HC2 := Lib.hid C2
            have HR := Lib.hid hr
            clear C1 C2 hr l1 l2
            have hgl := hlt_of q0
            have hcl := hlt_of k0
            go_region_held3 (fun w' => w'.cell? ⟨g, 0, none⟩ = some (.int .i64 s.bound) ∧ w'.cell? ⟨g, 1, none⟩ = some (.int .i64 s.now) ∧ w'.cell? ⟨g, 2, none⟩ = some (.slice A1 s.l.length c1) ∧ w'.cell? ⟨g, 3, none⟩ = some (.slice A2 s.l.length c2) ∧ w'.cell? ⟨c, 1, none⟩ = some (.int .i64 ds) ∧ w'.cell? ⟨c, 2, none⟩ = some (.int .i64 dt)) (first | exact ⟨y0, y1, y2, y3, y4, y5⟩ | exact ⟨q0, q1, q2, q3, k1, k2⟩)
              (first | (go_at_call 35; (with_reducible refine (HMay.out _ (by first | exact HC1.out | exact Kd.C_drew HC1.out) (by first | exact HC2.out | exact Kd.C_drew HC2.out)).mono ?_); rintro e w' ⟨rfl, hb1_⟩; have hb' : Below W1.heap.size W1 w' := (by first | exact hb1_ | exact (Below.refl _ _).drew.trans hb1_); have y0 := pw_cell_below hb' q0; have y1 := pw_cell_below hb' q1; have y2 := pw_cell_below hb' q2; have y3 := pw_cell_below hb' q3; have y4 := pw_cell_below hb' k1; have y5 := pw_cell_below hb' k2; clear hb1_))
            clear q0 q1 q2 q3 k0 k1 k2 HMay HC1 HC2 HR y0 y1 y2 y3 y4 y5 hgl hcl
            have hM2 : Both n0 w0 w' b g s := HM.out.more hb'
            have hK2 : Blk w' c 35 #[.int .i64 3, .int .i64 ds, .int .i64 dt] := HK.out.below (B := W1.heap.size) hb' HK.out.lt
            clear hb' HM HK
            have HM := Lib.hid hM2
            have HK := Lib.hid hK2
            clear hM2 hK2
            have k0 := (HK.out.cell 0).trans rfl
            have k1 := (HK.out.cell 1).trans rfl
            have k2 := (HK.out.cell 2).trans rfl
            clear hmb
            have HC := Lib.hid (idle_at HM.out.held HG.out HS.out)
            go_wp2_with fail
            refine (HC.out).mono ?_
            rintro e w3 ⟨rfl, h3, k3⟩
            obtain ⟨x1, x2, x3, x4⟩ := HM.out.first k3 h3
            have hk3 := HK.out.grown k3 (by intro e; injection e with e; exact hcb e)
            have n0b := HM.out.n0b
            have n0g := HM.out.n0g
            clear k0 k1 k2 h3 k3 HC
            obtain ⟨v1, v2, hr3⟩ := x2
            have q0 := hr3.bound
            have q1 := hr3.now
            have k1 := (hk3.cell 1).trans rfl
            have k2 := (hk3.cell 2).trans rfl
            have X1 := Lib.hid x1
            have X3 := Lib.hid x3
            have HR := Lib.hid hr3
            have HK3 := Lib.hid hk3
            have hbl := x1.lt
            clear x1 x3 hr3 hk3
            obtain ⟨A3, d3, A4, d4, rfl, rfl, l3, l4, C3, C4⟩ := HR.out.len
            have q2 := HR.out.c2
            clear l3 l4 C3 C4
            have u1 : (ds < 0) = True := eq_true g0
            go_wp2_with fail
            go_quiet (fail)
            have HF := Lib.hid (show Both n0 w0 (w3.drewN nq) b g s from ⟨X1.out.of_block rfl, ⟨_, _, HR.out.grown (only_drewN (only_refl _ _) nq)⟩, below_drewN X3.out nq, n0b, n0g, x4⟩)
            clear X1 X3 HR HK3
            go_wp2_with fail
            go_ret
            refine ⟨rfl, ?_⟩
            rw [HE.out]
            exact HF.out
          · have g1 : (s.l.length : Int) ≤ ds := by omega
            clear hA3
            have es : idleE s ds = (s, 2) := by unfold idleE; rw [if_neg (by rw [hA]; simp)]
            have HS := Lib.hid es
            have HE := Lib.hid (show act s ⟨3, ds, dt⟩ = s from by unfold PMarks.act; rw [if_neg (by show ¬ (3 : Int) = 1; decide), if_neg (by show ¬ (3 : Int) = 2; decide), if_pos rfl, es])
            clear es hA
            obtain ⟨mb, hmb⟩ : ∃ mb, asked s ds dt = mb := ⟨_, rfl⟩
            go_enter Try.func22, Try.ntmps22
            go_wp2_with fail
            generalize w.alloc _ = W1 at HM HK ⊢
            generalize w.heap.size = c at HK hcb hcg ⊢
            obtain ⟨v1, v2, hr⟩ := HM.out.ref
            obtain ⟨A1, c1, A2, c2, rfl, rfl, l1, l2, C1, C2⟩ := hr.len
            have q0 := hr.bound
            have q1 := hr.now
            have q2 := hr.c2
            have q3 := hr.c3
            have k0 := (HK.out.cell 0).trans rfl
            have k1 := (HK.out.cell 1).trans rfl
            have k2 := (HK.out.cell 2).trans rfl
            have HMay := Lib.hid fun (w' : World) (x1 : Kd.C (Kd.int .i64) w' A1 s.l.length (s.l.map (·.1))) (x2 : Kd.C Kd.bool w' A2 s.l.length (s.l.map (·.2))) => rmay_any s ds dt A1 A2 c1 c2 w' x1 x2 l1 l2
            rw [hmb] at HMay
            have HC1 := Lib.hid C1
            have HC2 := Lib.hid C2
            have HR := Lib.hid hr
            clear C1 C2 hr l1 l2
            have hgl := hlt_of q0
            have hcl := hlt_of k0
            go_region_held3 (fun w' => w'.cell? ⟨g, 0, none⟩ = some (.int .i64 s.bound) ∧ w'.cell? ⟨g, 1, none⟩ = some (.int .i64 s.now) ∧ w'.cell? ⟨g, 2, none⟩ = some (.slice A1 s.l.length c1) ∧ w'.cell? ⟨g, 3, none⟩ = some (.slice A2 s.l.length c2) ∧ w'.cell? ⟨c, 1, none⟩ = some (.int .i64 ds) ∧ w'.cell? ⟨c, 2, none⟩ = some (.int .i64 dt)) (first | exact ⟨y0, y1, y2, y3, y4, y5⟩ | exact ⟨q0, q1, q2, q3, k1, k2⟩)
              (first | (go_at_call 35; (with_reducible refine (HMay.out _ (by first | exact HC1.out | exact Kd.C_drew HC1.out) (by first | exact HC2.out | exact Kd.C_drew HC2.out)).mono ?_); rintro e w' ⟨rfl, hb1_⟩; have hb' : Below W1.heap.size W1 w' := (by first | exact hb1_ | exact (Below.refl _ _).drew.trans hb1_); have y0 := pw_cell_below hb' q0; have y1 := pw_cell_below hb' q1; have y2 := pw_cell_below hb' q2; have y3 := pw_cell_below hb' q3; have y4 := pw_cell_below hb' k1; have y5 := pw_cell_below hb' k2; clear hb1_))
            clear q0 q1 q2 q3 k0 k1 k2 HMay HC1 HC2 HR y0 y1 y2 y3 y4 y5 hgl hcl
            have hM2 : Both n0 w0 w' b g s := HM.out.more hb'
            have hK2 : Blk w' c 35 #[.int .i64 3, .int .i64 ds, .int .i64 dt] := HK.out.below (B := W1.heap.size) hb' HK.out.lt
            clear hb' HM HK
            have HM := Lib.hid hM2
            have HK := Lib.hid hK2
            clear hM2 hK2
            have k0 := (HK.out.cell 0).trans rfl
            have k1 := (HK.out.cell 1).trans rfl
            have k2 := (HK.out.cell 2).trans rfl
            clear hmb
            have HC := Lib.hid (idle_at HM.out.held HG.out HS.out)
            go_wp2_with fail
            refine (HC.out).mono ?_
            rintro e w3 ⟨rfl, h3, k3⟩
            obtain ⟨x1, x2, x3, x4⟩ := HM.out.first k3 h3
            have hk3 := HK.out.grown k3 (by intro e; injection e with e; exact hcb e)
            have n0b := HM.out.n0b
            have n0g := HM.out.n0g
            clear k0 k1 k2 h3 k3 HC
            obtain ⟨v1, v2, hr3⟩ := x2
            have q0 := hr3.bound
            have q1 := hr3.now
            have k1 := (hk3.cell 1).trans rfl
            have k2 := (hk3.cell 2).trans rfl
            have X1 := Lib.hid x1
            have X3 := Lib.hid x3
            have HR := Lib.hid hr3
            have HK3 := Lib.hid hk3
            have hbl := x1.lt
            clear x1 x3 hr3 hk3
            obtain ⟨A3, d3, A4, d4, rfl, rfl, l3, l4, C3, C4⟩ := HR.out.len
            have q2 := HR.out.c2
            clear l3 l4 C3 C4
            have u1 : (ds < 0) = False := eq_false (by omega)
            have u2 : decide ((s.l.length : Int) ≤ ds) = true := decide_eq_true (by omega)
            go_wp2_with fail
            go_quiet (fail)
            have HF := Lib.hid (show Both n0 w0 (w3.drewN nq) b g s from ⟨X1.out.of_block rfl, ⟨_, _, HR.out.grown (only_drewN (only_refl _ _) nq)⟩, below_drewN X3.out nq, n0b, n0g, x4⟩)
            clear X1 X3 HR HK3
            go_wp2_with fail
            go_ret
            refine ⟨rfl, ?_⟩
            rw [HE.out]
            exact HF.out
      · have n3_ : (dd == 3) = false := beq_eq_false_iff_ne.2 d3
        have HE := Lib.hid (show act s ⟨dd, ds, dt⟩ = s from by unfold PMarks.act; rw [if_neg d1, if_neg d2, if_neg d3])
        obtain ⟨mb, hmb⟩ : ∃ mb, asked s ds dt = mb := ⟨_, rfl⟩
        go_enter Try.func22, Try.ntmps22
        go_wp2_with fail
        generalize w.alloc _ = W1 at HM HK ⊢
        generalize w.heap.size = c at HK hcb hcg ⊢
        obtain ⟨v1, v2, hr⟩ := HM.out.ref
        obtain ⟨A1, c1, A2, c2, rfl, rfl, l1, l2, C1, C2⟩ := hr.len
        have q0 := hr.bound
        have q1 := hr.now
        have q2 := hr.c2
        have q3 := hr.c3
        have k0 := (HK.out.cell 0).trans rfl
        have k1 := (HK.out.cell 1).trans rfl
        have k2 := (HK.out.cell 2).trans rfl
        have HMay := Lib.hid fun (w' : World) (x1 : Kd.C (Kd.int .i64) w' A1 s.l.length (s.l.map (·.1))) (x2 : Kd.C Kd.bool w' A2 s.l.length (s.l.map (·.2))) => rmay_any s ds dt A1 A2 c1 c2 w' x1 x2 l1 l2
        rw [hmb] at HMay
        have HC1 := Lib.hid C1
        have HC2 := Lib.hid C2
        have HR := Lib.hid hr
        clear C1 C2 hr l1 l2
        have hgl := hlt_of q0
        have hcl := hlt_of k0
        go_region_held3 (fun w' => w'.cell? ⟨g, 0, none⟩ = some (.int .i64 s.bound) ∧ w'.cell? ⟨g, 1, none⟩ = some (.int .i64 s.now) ∧ w'.cell? ⟨g, 2, none⟩ = some (.slice A1 s.l.length c1) ∧ w'.cell? ⟨g, 3, none⟩ = some (.slice A2 s.l.length c2) ∧ w'.cell? ⟨c, 1, none⟩ = some (.int .i64 ds) ∧ w'.cell? ⟨c, 2, none⟩ = some (.int .i64 dt)) (first | exact ⟨y0, y1, y2, y3, y4, y5⟩ | exact ⟨q0, q1, q2, q3, k1, k2⟩)
          (first | (go_at_call 35; (with_reducible refine (HMay.out _ (by first | exact HC1.out | exact Kd.C_drew HC1.out) (by first | exact HC2.out | exact Kd.C_drew HC2.out)).mono ?_); rintro e w' ⟨rfl, hb1_⟩; have hb' : Below W1.heap.size W1 w' := (by first | exact hb1_ | exact (Below.refl _ _).drew.trans hb1_); have y0 := pw_cell_below hb' q0; have y1 := pw_cell_below hb' q1; have y2 := pw_cell_below hb' q2; have y3 := pw_cell_below hb' q3; have y4 := pw_cell_below hb' k1; have y5 := pw_cell_below hb' k2; clear hb1_))
        clear q0 q1 q2 q3 k0 k1 k2 HMay HC1 HC2 HR y0 y1 y2 y3 y4 y5 hgl hcl
        have hM2 : Both n0 w0 w' b g s := HM.out.more hb'
        have hK2 : Blk w' c 35 #[.int .i64 dd, .int .i64 ds, .int .i64 dt] := HK.out.below (B := W1.heap.size) hb' HK.out.lt
        clear hb' HM HK
        have HM := Lib.hid hM2
        have HK := Lib.hid hK2
        clear hM2 hK2
        have k0 := (HK.out.cell 0).trans rfl
        have k1 := (HK.out.cell 1).trans rfl
        have k2 := (HK.out.cell 2).trans rfl
        clear hmb
        have HF := HM
        go_wp2_with fail
        go_ret
        refine ⟨rfl, ?_⟩
        rw [HE.out]
        exact HF.out
end Go.Proofs.Ytnkfldoejalpkaa.Marks
