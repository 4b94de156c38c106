/- The reference's marks in memory; its Tell, Rest, May. -/
import Derived.Test.YtnkfldoejalpkaaMarksR
import Derived.Test.YtnkfldoejalpkaaROrd
import Derived.Test.YtnkfldoejalpkaaPrint6
import Derived.Test.YtnkfldoejalpkaaPrint5
import Derived.Test.YtnkfldoejalpkaaPrint3
namespace Go.Proofs.Ytnkfldoejalpkaa.Marks
open Go.RowKit Aid PMarks Txt Print Go.Proofs.YtnkfldoejalpkaaW.PrintWords Go.Proofs.YtnkfldoejalpkaaW.PrintMore
theorem infoI64 : (Try.prog.info? 2).map (fun i => (i.zero, i.size, i.bytes)) = some (some (.int .i64 0), 1, 8) := by kernel_rfl
theorem infoBool : (Try.prog.info? 4).map (fun i => (i.zero, i.size, i.bytes)) = some (some (.bool false), 1, 1) := by kernel_rfl
/-- the reference's marks, in block g; b is the block of others -/
structure RH (w : World) (g b : Nat) (s : St) (v1 v2 : Value) : Prop where
  bound : w.cell? ⟨g, 0, none⟩ = some (.int .i64 s.bound)
  now : w.cell? ⟨g, 1, none⟩ = some (.int .i64 s.now)
  c2 : w.cell? ⟨g, 2, none⟩ = some v1
  c3 : w.cell? ⟨g, 3, none⟩ = some v2
  free : ∀ j, j < 4 → w.frozen? ⟨g, j, none⟩ = false
  r1 : Kd.R (Kd.int .i64) 2 w 0 (fun k => k ≠ b ∧ k ≠ g) v1 (s.l.map (·.1))
  r2 : Kd.R Kd.bool 4 w 0 (fun k => k ≠ b ∧ k ≠ g) v2 (s.l.map (·.2))
  ne : g ≠ b
theorem RH.lt {w : World} {g b : Nat} {s : St} {v1 v2 : Value} (h : RH w g b s v1 v2) : g < w.heap.size := World.block_lt_of_cell? w ⟨g, 0, none⟩ h.bound
theorem RH.grown {w w' : World} {g b : Nat} {s : St} {v1 v2 : Value} (h : RH w g b s v1 v2) (hg : w.grownBy w' (some b)) : RH w' g b s v1 v2 := by
  have hb := hg.block g h.lt (fun e => h.ne (by injection e))
  exact ⟨(World.cell?_of_block hb).trans h.bound, (World.cell?_of_block hb).trans h.now, (World.cell?_of_block hb).trans h.c2, (World.cell?_of_block hb).trans h.c3, fun j hj => (World.frozen?_of_block hb).trans (h.free j hj),
    Kd.R_grown h.r1 hg (fun k hk e => hk.1 (by injection e)), Kd.R_grown h.r2 hg (fun k hk e => hk.1 (by injection e)), h.ne⟩
theorem RH.below {w w' : World} {g b : Nat} {s : St} {v1 v2 : Value} (h : RH w g b s v1 v2) (hb : Below w.heap.size w w') : RH w' g b s v1 v2 := h.grown (only_of_below hb _)
theorem RH.len {w : World} {g b : Nat} {s : St} {v1 v2 : Value} (h : RH w g b s v1 v2) : ∃ A1 c1 A2 c2, v1 = .slice A1 s.l.length c1 ∧ v2 = .slice A2 s.l.length c2 ∧ s.l.length ≤ c1 ∧ s.l.length ≤ c2 ∧ Kd.C (Kd.int .i64) w A1 s.l.length (s.l.map (·.1)) ∧ Kd.C Kd.bool w A2 s.l.length (s.l.map (·.2)) := by
  obtain ⟨A1, c1, e1, l1, C1⟩ := Kd.R_reads h.r1
  obtain ⟨A2, c2, e2, l2, C2⟩ := Kd.R_reads h.r2
  rw [List.length_map] at e1 l1 C1 e2 l2 C2
  exact ⟨A1, c1, A2, c2, e1, e2, l1, l2, C1, C2⟩
theorem rd_fst (l : List Src) (k : Nat) : rdOf (0 : Int) (l.map (·.1)) (k : Int) = (l.getD k (0, false)).1 := by
  unfold rdOf
  rw [Int.toNat_natCast, List.getD_eq_getElem?_getD, List.getD_eq_getElem?_getD, List.getElem?_map]
  cases l[k]? <;> rfl
theorem rd_snd (l : List Src) (k : Nat) : rdOf false (l.map (·.2)) (k : Int) = (l.getD k (0, false)).2 := by
  unfold rdOf
  rw [Int.toNat_natCast, List.getD_eq_getElem?_getD, List.getD_eq_getElem?_getD, List.getElem?_map]
  cases l[k]? <;> rfl
theorem tells_cells (k : Nat) (s : St) (b g : Nat) (w : World) (h1 h2 p1 p2 : Nat) (w4 : World) (u1 u2 : Value) (hk : k < s.l.length)
    (ho1 : (Kd.scalar (Value.int .i64) (fun _ => rfl)).R 2 w4 w.heap.size (fun k => k ≠ b ∧ k ≠ g) (.slice (some ⟨h1, 0, none⟩) (s.l.map (·.1)).length p1) (s.l.map (·.1)))
    (ho2 : (Kd.scalar Value.bool (fun _ => rfl)).R 4 w4 w.heap.size (fun k => k ≠ b ∧ k ≠ g) (.slice (some ⟨h2, 0, none⟩) (s.l.map (·.2)).length p2) (s.l.map (·.2)))
    (n1 : h1 ≠ g) (n2 : h2 ≠ g) (hr : RH w4 g b s u1 u2) :
    w4.cell? ⟨h1, k, none⟩ = some (.int .i64 (s.l.getD k (0, false)).1) ∧ w4.frozen? ⟨h1, k, none⟩ = false ∧ w4.cell? ⟨h2, k, none⟩ = some (.bool (s.l.getD k (0, false)).2) ∧ w4.frozen? ⟨h2, k, none⟩ = false ∧
    (w4.cell? ⟨g, 0, none⟩ = some (.int .i64 s.bound) ∧ w4.cell? ⟨g, 1, none⟩ = some (.int .i64 s.now)) ∧ w4.cell? ⟨g, 2, none⟩ = some u1 ∧ w4.cell? ⟨g, 3, none⟩ = some u2 ∧ (w4.frozen? ⟨g, 2, none⟩ = false ∧ w4.frozen? ⟨g, 3, none⟩ = false) ∧ h1 ≠ h2 ∧ h1 ≠ g ∧ h2 ≠ g := by
  have c1 := Kd.R_cell (0 : Int) ho1 (k : Int) (by omega) (by rw [List.length_map]; omega)
  have c2 := Kd.R_cell false ho2 (k : Int) (by omega) (by rw [List.length_map]; omega)
  rw [rd_fst, Int.toNat_natCast] at c1
  rw [rd_snd, Int.toNat_natCast] at c2
  refine ⟨c1.1, c1.2, c2.1, c2.2, ⟨hr.bound, hr.now⟩, hr.c2, hr.c3, ⟨hr.free 2 (by omega), hr.free 3 (by omega)⟩, ?_, n1, n2⟩
  rintro rfl
  obtain ⟨x1, y1⟩ := Kd.R_typed ho1 h1 rfl
  obtain ⟨x2, y2⟩ := Kd.R_typed ho2 h1 rfl
  rw [y1] at y2
  injection y2 with y2
  injection y2 with _ y2
  exact absurd y2 (by decide)
theorem ref_least_l (b n : Int) (l : List Src) (hl : l.length ≤ 1000) (d : Nat) : ∀ i : Nat, i + d = l.length →
    Ev (fun k => freshetref23_Least.l0 k ((least (l.take i)).getD 0) (least (l.take i)).isSome (i : Int) b n (l.map (·.1)) (l.map (·.2))) ((least l).getD 0, (least l).isSome) := by
  induction d with
  | zero =>
    intro i hi
    rw [List.take_of_length_le (by omega)]
    refine Ev.step (f := fun _ => some _) (fun k => ?_) (Ev.now _)
    rw [freshetref23_Least.l0, if_neg (by rw [List.length_map]; omega)]
  | succ d ih =>
    intro i hi
    have hlt : i < l.length := by omega
    have hn := ih (i + 1) (by omega)
    have hsn := least_snoc (l.take i) l[i].1 l[i].2
    have ht : l.take (i + 1) = l.take i ++ [(l[i].1, l[i].2)] := List.take_succ_eq_append_getElem hlt
    rw [← ht] at hsn
    have hg : l.getD i (0, false) = l[i] := by rw [List.getD_eq_getElem?_getD, List.getElem?_eq_getElem hlt]; rfl
    have e1 : rd (l.map (·.1)) (i : Int) = l[i].1 := by have := rd_fst l i; rw [hg] at this; exact this
    have e2 : rdOf false (l.map (·.2)) (i : Int) = l[i].2 := by have := rd_snd l i; rw [hg] at this; exact this
    have e3 : wrap64 ((i : Int) + 1) = ((i + 1 : Nat) : Int) := wrap_id (x := ((i + 1 : Nat) : Int)) (by omega) (by omega)
    refine Ev.step (fun k => ?_) hn
    rw [freshetref23_Least.l0, if_pos (by rw [List.length_map]; omega), if_pos (by omega), if_pos (by rw [List.length_map]; omega), e1, e2, e3, hsn]
    cases hd : l[i].2 with
    | true => rfl
    | false =>
      cases ho : least (l.take i) with
      | none => rfl
      | some x =>
        simp only [Bool.false_eq_true, if_false, Option.isSome_some, if_true, Option.getD_some]
        by_cases c : l[i].1 < x
        · simp only [if_pos c]
        · simp only [if_neg c]
theorem rleast_any (b n : Int) (l : List Src) (hl : l.length ≤ 16) (A1 A2 : Option Addr) (c1 c2 : Nat) (w : World) (h1 : Kd.C (Kd.int .i64) w A1 l.length (l.map (·.1))) (h2 : Kd.C Kd.bool w A2 l.length (l.map (·.2))) (l1 : l.length ≤ c1) (l2 : l.length ≤ c2) :
    Calls Try.prog 34 #[.agg #[.int .i64 b, .int .i64 n, .slice A1 l.length c1, .slice A2 l.length c2]] w fun e w' => e = .returned (.tuple #[.int .i64 ((least l).getD 0), .bool (least l).isSome]) ∧ Below w.heap.size w w' := by
  obtain ⟨k, hk⟩ := (ref_least_l b n l (by omega) l.length 0 (by omega)).rounds
  have e1 : (l.map (·.1)).length = l.length := List.length_map _
  have e2 : (l.map (·.2)).length = l.length := List.length_map _
  have hk2 : freshetref23_Least.f k b n (l.map (·.1)) (l.map (·.2)) = some ((least l).getD 0, (least l).isSome) := hk
  have := freshetref23_Least.calls k b n A1 c1 (l.map (·.1)) A2 c2 (l.map (·.2)) _ _ w (by rw [e1]; exact h1) (by rw [e1]; exact l1) (by rw [e2]; exact h2) (by rw [e2]; exact l2) hk2
  rw [e1, e2] at this
  exact this
theorem RH.setNow {w : World} {g b : Nat} {s : St} {v1 v2 : Value} (h : RH w g b s v1 v2) (t : Int) : RH (w.setCell ⟨g, 1, none⟩ (.int .i64 t)) g b { s with now := t } v1 v2 :=
  ⟨cell_off (by omega) h.bound, World.cell?_setCell_same _ _ _ h.now, cell_off (by omega) h.c2, cell_off (by omega) h.c3, fun j hj => by rw [World.frozen?_setCell]; exact h.free j hj,
   Kd.R_far h.r1 (fun k hk => hk.2) _, Kd.R_far h.r2 (fun k hk => hk.2) _, h.ne⟩
theorem tells_after (k : Nat) (s : St) (b g : Nat) (w : World) (h1 h2 p1 p2 : Nat) (w4 : World) (u1 u2 : Value) (mt : Int)
    (ho1 : (Kd.scalar (Value.int .i64) (fun _ => rfl)).R 2 w4 w.heap.size (fun k => k ≠ b ∧ k ≠ g) (.slice (some ⟨h1, 0, none⟩) (s.l.map (·.1)).length p1) (s.l.map (·.1)))
    (ho2 : (Kd.scalar Value.bool (fun _ => rfl)).R 4 w4 w.heap.size (fun k => k ≠ b ∧ k ≠ g) (.slice (some ⟨h2, 0, none⟩) (s.l.map (·.2)).length p2) (s.l.map (·.2)))
    (n12 : h1 ≠ h2) (n1 : h1 ≠ g) (n2 : h2 ≠ g) (hr : RH w4 g b s u1 u2) :
    RH ((((w4.setCell ⟨h1, k, none⟩ (.int .i64 mt)).setCell ⟨h2, k, none⟩ (.bool false)).setCell ⟨g, 2, none⟩ (.slice (some ⟨h1, 0, none⟩) s.l.length p1)).setCell ⟨g, 3, none⟩ (.slice (some ⟨h2, 0, none⟩) s.l.length p2))
      g b { s with l := s.l.set k (mt, false) } (.slice (some ⟨h1, 0, none⟩) s.l.length p1) (.slice (some ⟨h2, 0, none⟩) s.l.length p2) := by
  obtain ⟨x1, y1⟩ := Kd.R_typed ho1 h1 rfl
  obtain ⟨x2, y2⟩ := Kd.R_typed ho2 h2 rfl
  have a1 := (Kd.R_put ho1 (k : Int) mt).1
  rw [Int.toNat_natCast] at a1
  have a2 := Kd.R_set a1 (g := h2) (t := 4) (cells := x2) ((Below.heap_setCell _ _ _ h2 (fun e => n12 e.symm)).trans y2) (by intro q hq; rw [List.mem_singleton.1 hq]; decide) k (.bool false)
  have a3 := Kd.R_far (p := ⟨g, 3, none⟩) (Kd.R_far (p := ⟨g, 2, none⟩) a2 (fun k hk => hk.2) (.slice (some ⟨h1, 0, none⟩) s.l.length p1)) (fun k hk => hk.2) (.slice (some ⟨h2, 0, none⟩) s.l.length p2)
  have b1 := Kd.R_set ho2 (g := h1) (t := 2) (cells := x1) y1 (by intro q hq; rw [List.mem_singleton.1 hq]; decide) k (.int .i64 mt)
  have b2 := (Kd.R_put b1 (k : Int) false).1
  rw [Int.toNat_natCast] at b2
  have b3 := Kd.R_far (p := ⟨g, 3, none⟩) (Kd.R_far (p := ⟨g, 2, none⟩) b2 (fun k hk => hk.2) (.slice (some ⟨h1, 0, none⟩) s.l.length p1)) (fun k hk => hk.2) (.slice (some ⟨h2, 0, none⟩) s.l.length p2)
  have m1 : (s.l.map (·.1)).set k mt = (s.l.set k (mt, false)).map (·.1) := by rw [List.map_set]
  have m2 : (s.l.map (·.2)).set k false = (s.l.set k (mt, false)).map (·.2) := by rw [List.map_set]
  have far : ∀ j : Nat, ((w4.setCell ⟨h1, k, none⟩ (.int .i64 mt)).setCell ⟨h2, k, none⟩ (.bool false)).cell? ⟨g, j, none⟩ = w4.cell? ⟨g, j, none⟩ := fun j => by
    rw [World.cell?_setCell_other _ _ _ _ (fun e => n2 (by injection e)), World.cell?_setCell_other _ _ _ _ (fun e => n1 (by injection e))]
  rw [m1, List.length_map] at a3
  rw [m2, List.length_map] at b3
  refine ⟨cell_off (by omega) (cell_off (by omega) ((far 0).trans hr.bound)), cell_off (by omega) (cell_off (by omega) ((far 1).trans hr.now)), ?_, ?_, fun j hj => ?_, Kd.R_lower a3 (Nat.zero_le _), Kd.R_lower b3 (Nat.zero_le _), hr.ne⟩
  · exact cell_off (by omega) (World.cell?_setCell_same _ _ _ ((far 2).trans hr.c2))
  · exact World.cell?_setCell_same _ _ _ (cell_off (by omega) ((far 3).trans hr.c3))
  · rw [World.frozen?_setCell, World.frozen?_setCell, World.frozen?_setCell, World.frozen?_setCell]
    exact hr.free j hj
set_option maxHeartbeats 2000000 in
theorem rtell_any (g b k : Nat) (s : St) (t : Int) (v1 v2 : Value) (w : World) (h : RH w g b s v1 v2) (hk : k < s.l.length) (hn : s.l.length ≤ 16) (hb : b < w.heap.size) :
    Calls Try.prog 36 #[.pointer (some ⟨g, 0, none⟩), .int .i64 k, .int .i64 t] w fun e w' => e = .returned (.tuple #[]) ∧ (∃ v1 v2, RH w' g b (tell s k t) v1 v2) ∧ w.grownBy w' (some g) := by
  obtain ⟨A1, c1, A2, c2, rfl, rfl, l1, l2, C1, C2⟩ := h.len
  have hlt := h.lt
  have hgb := h.ne
  have q2 := h.c2
  have hpos : 0 < (s.l.map (·.1)).length := by rw [List.length_map]; omega
  have hpos2 : 0 < (s.l.map (·.2)).length := by rw [List.length_map]; omega
  have HP1 := Lib.hid hpos
  have HP2 := Lib.hid hpos2
  have HH := Lib.hid h
  have HC1 := Lib.hid C1
  have HC2 := Lib.hid C2
  clear h C1 C2 hpos hpos2
  obtain ⟨m, hm⟩ : ∃ m, m = (s.l.getD k (0, false)).1 := ⟨_, rfl⟩
  have HM := Lib.hid hm
  clear hm
  by_cases hmt : m < t
  · go_enter Try.func36, Try.ntmps36
    go_wp2_with (first
      | ((with_reducible refine gate_dst (N := 10) rfl ?_); refine Kd.R_lit (Kd.int .i64) (w0 := w) w.heap.size 2 ?hg (N := 10) ?hd (xs := ([] : List Int)) (inner := []) (ok := fun k => k ≠ b ∧ k ≠ g) (okp := fun _ => False) ?hr ?hp (fun _ h => h.elim) ?hf (Below.refl _ _) (Nat.le_refl _) (by simp) ?_; (case hd => rfl); (case hg => rfl); (case hr => first | (go_simp; done) | (go_simp; rfl)); (case hp => exact (Reps.none _ _)); (case hf => exact ⟨by omega, by omega⟩); intro v10 w1 ho1 hb1 hg1 _; have HO1 := Lib.hid ho1; have HB1 := Lib.hid hb1; have HR1 := Lib.hid (HH.out.below hb1); have q12 := HR1.out.c2; clear ho1 hb1 hg1 q2)
      | ((with_reducible refine gate_builtin (b := .append) (xs := #[.tmp 10, .tmp 14]) rfl ?_); at_builtin; refine Kd.R_append_row (Value.int .i64) (0 : Int) (h1 := fun _ => rfl) (w0 := w) w.heap.size rfl (.tmp 10) (.tmp 14) 23 2 (.int .i64 0) 8 rfl Try.underlying23 infoI64 rfl (by omega) v10 [] (s.l.map (·.1)) A1 s.l.length c1 (fun k => k ≠ b ∧ k ≠ g) rfl rfl ?hfr HO1.out ?hC HB1.out HB1.out.size ?hl ?_; (case hfr => exact fun k hk => by have := HB1.out.size; exact ⟨by omega, by omega⟩); (case hC => exact Kd.C_below HC1.out HB1.out); (case hl => simp only [List.length_nil]; omega); intro v6 w2 ho2 hb2 hg2 _; rw [List.nil_append] at ho2; have HO2 := Lib.hid ho2; have HB2 := Lib.hid hb2; have HR2 := Lib.hid (HH.out.below hb2); have q23 := HR2.out.c3; clear ho2 hb2 hg2 q12)
      | ((with_reducible refine gate_dst (N := 16) rfl ?_); refine Kd.R_lit Kd.bool (w0 := w) w.heap.size 4 ?hg (N := 16) ?hd (xs := ([] : List Bool)) (inner := []) (ok := fun k => k ≠ b ∧ k ≠ g) (okp := fun _ => False) ?hr ?hp (fun _ h => h.elim) ?hf HB2.out HB2.out.size (by simp) ?_; (case hd => rfl); (case hg => rfl); (case hr => first | (go_simp; done) | (go_simp; rfl)); (case hp => exact (Reps.none _ _)); (case hf => have := HB2.out.size; exact ⟨by omega, by omega⟩); intro v16 w3 ho3 hb3 hg3 _; have HO3 := Lib.hid ho3; have HB3 := Lib.hid hb3; have HR3 := Lib.hid (HH.out.below hb3); have HM3 := Lib.hid (Kd.R_grown HO2.out hg3 (fun _ _ e => by cases e)); have q33 := HR3.out.c3; clear ho3 hb3 hg3 q23)
      | ((with_reducible refine gate_builtin (b := .append) (xs := #[.tmp 16, .tmp 20]) rfl ?_); at_builtin; refine Kd.R_append_row Value.bool false (h1 := fun _ => rfl) (w0 := w) w.heap.size rfl (.tmp 16) (.tmp 20) 29 4 (.bool false) 1 rfl Try.underlying29 infoBool rfl (by omega) v16 [] (s.l.map (·.2)) A2 s.l.length c2 (fun k => k ≠ b ∧ k ≠ g) rfl rfl ?hfr HO3.out ?hC HB3.out HB3.out.size ?hl ?_; (case hfr => exact fun k hk => by have := HB3.out.size; exact ⟨by omega, by omega⟩); (case hC => exact Kd.C_below HC2.out HB3.out); (case hl => simp only [List.length_nil]; omega); intro v7 w4 ho4 hb4 hg4 _; rw [List.nil_append] at ho4; obtain ⟨h2, p2, rfl, hle2, hh2, _⟩ := Kd.R_form ho4 HP2.out; have HM4a := Kd.R_over' HM3.out (Kd.R_typed HO3.out) (by intro q hq; rw [List.mem_singleton.1 hq]; decide) hg4; obtain ⟨h1, p1, rfl, hle1, hh1, _⟩ := Kd.R_form HM4a HP1.out; have HM4 := Lib.hid HM4a; have HO4 := Lib.hid ho4; have HB4 := Lib.hid hb4; have HR4 := Lib.hid (HH.out.below hb4); have tt := tells_cells k s b g w h1 h2 p1 p2 w4 _ _ hk HM4.out HO4.out (by omega) (by omega) HR4.out; obtain ⟨k1, f1, k2, f2, e0, e1, e2, e3, n12, n1g, n2g⟩ := tt; rw [← HM.out] at k1; clear ho4 hb4 hg4 q33 HM4a))
    have hX := tells_after k s b g w h1 h2 p1 p2 w4 _ _ t HM4.out HO4.out n12 n1g n2g HR4.out
    have hG : w.grownBy ((((w4.setCell ⟨h1, k, none⟩ (.int .i64 t)).setCell ⟨h2, k, none⟩ (.bool false)).setCell ⟨g, 2, none⟩ (.slice (some ⟨h1, 0, none⟩) s.l.length p1)).setCell ⟨g, 3, none⟩ (.slice (some ⟨h2, 0, none⟩) s.l.length p2)) (some g) := only_set (p := ⟨g, 3, none⟩) (only_set (p := ⟨g, 2, none⟩) (only_set (p := ⟨h2, k, none⟩) (only_set (p := ⟨h1, k, none⟩) (only_of_below HB4.out (some g)) (.inr hle1) (.int .i64 t)) (.inr hle2) (.bool false)) (.inl rfl) (.slice (some ⟨h1, 0, none⟩) s.l.length p1)) (.inl rfl) (.slice (some ⟨h2, 0, none⟩) s.l.length p2)
    have hE : tell s k t = put s k (t, false) := by
      unfold PMarks.tell
      rw [← HM.out]
      unfold PMarks.mx
      rw [if_pos (by omega)]
    clear HM3 HO2 HO3 HO1 HM4 HO4 HB1 HB2 HB3 HB4 HR1 HR2 HR3 HR4 k1 f1 k2 f2 e0 e1 e2 e3 HP1 HP2 HC1 HC2 HH HM
    generalize (((w4.setCell ⟨h1, k, none⟩ (.int .i64 t)).setCell ⟨h2, k, none⟩ (.bool false)).setCell ⟨g, 2, none⟩ (.slice (some ⟨h1, 0, none⟩) s.l.length p1)).setCell ⟨g, 3, none⟩ (.slice (some ⟨h2, 0, none⟩) s.l.length p2) = X at hX hG ⊢
    have hl5 : (s.l.set k (t, false)).length = s.l.length := List.length_set
    obtain ⟨A1', c1', A2', c2', q1, q2, l1', l2', C1', C2'⟩ := hX.len
    dsimp only at q1 q2 l1' l2' C1' C2'
    rw [hl5] at q1 q2 l1' l2' C1' C2'
    injection q1 with q1 _ q1c
    injection q2 with q2 _ q2c
    subst q1 q1c q2 q2c
    have hLs := rleast_any s.bound s.now (s.l.set k (t, false)) (by omega) _ _ p1 p2 X (by rw [hl5]; exact C1') (by rw [hl5]; exact C2') (by omega) (by omega)
    rw [hl5] at hLs
    refine hLs.mono ?_
    clear hLs C1' C2' l1' l2'
    rintro e w5 ⟨rfl, hb5⟩
    have H5 := Lib.hid (hX.below hb5)
    have G5 := Lib.hid (only_trans hG (only_of_below hb5 (some g)))
    have nw := H5.out.now
    have fr := H5.out.free 1 (by omega)
    dsimp only at nw
    clear hX hG hb5 hl5
    have HE := Lib.hid hE
    clear hE
    cases ho : least (s.l.set k (t, false)) with
    | none =>
      have HP := Lib.hid (show put s k (t, false) = { s with l := s.l.set k (t, false) } by unfold put; rw [ho]; rfl)
      clear ho
      go_wp2_with fail
      go_end0
      refine ⟨rfl, ?_, G5.out⟩
      rw [HE.out, HP.out]
      exact ⟨_, _, H5.out⟩
    | some y =>
      have HP := Lib.hid (show put s k (t, false) = { s with l := s.l.set k (t, false), now := if s.now < y then y else s.now } by unfold put; rw [ho]; rfl)
      clear ho
      by_cases hy : s.now < y
      · go_wp2_with fail
        go_end0
        refine ⟨rfl, ?_, only_set G5.out (.inl rfl) _⟩
        rw [HE.out, HP.out, if_pos hy]
        exact ⟨_, _, H5.out.setNow y⟩
      · go_wp2_with fail
        go_end0
        refine ⟨rfl, ?_, G5.out⟩
        rw [HE.out, HP.out, if_neg (by omega)]
        exact ⟨_, _, H5.out⟩
  · go_enter Try.func36, Try.ntmps36
    go_wp2_with (first
      | ((with_reducible refine gate_dst (N := 10) rfl ?_); refine Kd.R_lit (Kd.int .i64) (w0 := w) w.heap.size 2 ?hg (N := 10) ?hd (xs := ([] : List Int)) (inner := []) (ok := fun k => k ≠ b ∧ k ≠ g) (okp := fun _ => False) ?hr ?hp (fun _ h => h.elim) ?hf (Below.refl _ _) (Nat.le_refl _) (by simp) ?_; (case hd => rfl); (case hg => rfl); (case hr => first | (go_simp; done) | (go_simp; rfl)); (case hp => exact (Reps.none _ _)); (case hf => exact ⟨by omega, by omega⟩); intro v10 w1 ho1 hb1 hg1 _; have HO1 := Lib.hid ho1; have HB1 := Lib.hid hb1; have HR1 := Lib.hid (HH.out.below hb1); have q12 := HR1.out.c2; clear ho1 hb1 hg1 q2)
      | ((with_reducible refine gate_builtin (b := .append) (xs := #[.tmp 10, .tmp 14]) rfl ?_); at_builtin; refine Kd.R_append_row (Value.int .i64) (0 : Int) (h1 := fun _ => rfl) (w0 := w) w.heap.size rfl (.tmp 10) (.tmp 14) 23 2 (.int .i64 0) 8 rfl Try.underlying23 infoI64 rfl (by omega) v10 [] (s.l.map (·.1)) A1 s.l.length c1 (fun k => k ≠ b ∧ k ≠ g) rfl rfl ?hfr HO1.out ?hC HB1.out HB1.out.size ?hl ?_; (case hfr => exact fun k hk => by have := HB1.out.size; exact ⟨by omega, by omega⟩); (case hC => exact Kd.C_below HC1.out HB1.out); (case hl => simp only [List.length_nil]; omega); intro v6 w2 ho2 hb2 hg2 _; rw [List.nil_append] at ho2; have HO2 := Lib.hid ho2; have HB2 := Lib.hid hb2; have HR2 := Lib.hid (HH.out.below hb2); have q23 := HR2.out.c3; clear ho2 hb2 hg2 q12)
      | ((with_reducible refine gate_dst (N := 16) rfl ?_); refine Kd.R_lit Kd.bool (w0 := w) w.heap.size 4 ?hg (N := 16) ?hd (xs := ([] : List Bool)) (inner := []) (ok := fun k => k ≠ b ∧ k ≠ g) (okp := fun _ => False) ?hr ?hp (fun _ h => h.elim) ?hf HB2.out HB2.out.size (by simp) ?_; (case hd => rfl); (case hg => rfl); (case hr => first | (go_simp; done) | (go_simp; rfl)); (case hp => exact (Reps.none _ _)); (case hf => have := HB2.out.size; exact ⟨by omega, by omega⟩); intro v16 w3 ho3 hb3 hg3 _; have HO3 := Lib.hid ho3; have HB3 := Lib.hid hb3; have HR3 := Lib.hid (HH.out.below hb3); have HM3 := Lib.hid (Kd.R_grown HO2.out hg3 (fun _ _ e => by cases e)); have q33 := HR3.out.c3; clear ho3 hb3 hg3 q23)
      | ((with_reducible refine gate_builtin (b := .append) (xs := #[.tmp 16, .tmp 20]) rfl ?_); at_builtin; refine Kd.R_append_row Value.bool false (h1 := fun _ => rfl) (w0 := w) w.heap.size rfl (.tmp 16) (.tmp 20) 29 4 (.bool false) 1 rfl Try.underlying29 infoBool rfl (by omega) v16 [] (s.l.map (·.2)) A2 s.l.length c2 (fun k => k ≠ b ∧ k ≠ g) rfl rfl ?hfr HO3.out ?hC HB3.out HB3.out.size ?hl ?_; (case hfr => exact fun k hk => by have := HB3.out.size; exact ⟨by omega, by omega⟩); (case hC => exact Kd.C_below HC2.out HB3.out); (case hl => simp only [List.length_nil]; omega); intro v7 w4 ho4 hb4 hg4 _; rw [List.nil_append] at ho4; obtain ⟨h2, p2, rfl, hle2, hh2, _⟩ := Kd.R_form ho4 HP2.out; have HM4a := Kd.R_over' HM3.out (Kd.R_typed HO3.out) (by intro q hq; rw [List.mem_singleton.1 hq]; decide) hg4; obtain ⟨h1, p1, rfl, hle1, hh1, _⟩ := Kd.R_form HM4a HP1.out; have HM4 := Lib.hid HM4a; have HO4 := Lib.hid ho4; have HB4 := Lib.hid hb4; have HR4 := Lib.hid (HH.out.below hb4); have tt := tells_cells k s b g w h1 h2 p1 p2 w4 _ _ hk HM4.out HO4.out (by omega) (by omega) HR4.out; obtain ⟨k1, f1, k2, f2, e0, e1, e2, e3, n12, n1g, n2g⟩ := tt; rw [← HM.out] at k1; clear ho4 hb4 hg4 q33 HM4a))
    have hX := tells_after k s b g w h1 h2 p1 p2 w4 _ _ m HM4.out HO4.out n12 n1g n2g HR4.out
    have hG : w.grownBy ((((w4.setCell ⟨h1, k, none⟩ (.int .i64 m)).setCell ⟨h2, k, none⟩ (.bool false)).setCell ⟨g, 2, none⟩ (.slice (some ⟨h1, 0, none⟩) s.l.length p1)).setCell ⟨g, 3, none⟩ (.slice (some ⟨h2, 0, none⟩) s.l.length p2)) (some g) := only_set (p := ⟨g, 3, none⟩) (only_set (p := ⟨g, 2, none⟩) (only_set (p := ⟨h2, k, none⟩) (only_set (p := ⟨h1, k, none⟩) (only_of_below HB4.out (some g)) (.inr hle1) (.int .i64 m)) (.inr hle2) (.bool false)) (.inl rfl) (.slice (some ⟨h1, 0, none⟩) s.l.length p1)) (.inl rfl) (.slice (some ⟨h2, 0, none⟩) s.l.length p2)
    have hE : tell s k t = put s k (m, false) := by
      unfold PMarks.tell
      rw [← HM.out]
      unfold PMarks.mx
      rw [if_neg (by omega)]
    clear HM3 HO2 HO3 HO1 HM4 HO4 HB1 HB2 HB3 HB4 HR1 HR2 HR3 HR4 k1 f1 k2 f2 e0 e1 e2 e3 HP1 HP2 HC1 HC2 HH HM
    generalize (((w4.setCell ⟨h1, k, none⟩ (.int .i64 m)).setCell ⟨h2, k, none⟩ (.bool false)).setCell ⟨g, 2, none⟩ (.slice (some ⟨h1, 0, none⟩) s.l.length p1)).setCell ⟨g, 3, none⟩ (.slice (some ⟨h2, 0, none⟩) s.l.length p2) = X at hX hG ⊢
    have hl5 : (s.l.set k (m, false)).length = s.l.length := List.length_set
    obtain ⟨A1', c1', A2', c2', q1, q2, l1', l2', C1', C2'⟩ := hX.len
    dsimp only at q1 q2 l1' l2' C1' C2'
    rw [hl5] at q1 q2 l1' l2' C1' C2'
    injection q1 with q1 _ q1c
    injection q2 with q2 _ q2c
    subst q1 q1c q2 q2c
    have hLs := rleast_any s.bound s.now (s.l.set k (m, false)) (by omega) _ _ p1 p2 X (by rw [hl5]; exact C1') (by rw [hl5]; exact C2') (by omega) (by omega)
    rw [hl5] at hLs
    refine hLs.mono ?_
    clear hLs C1' C2' l1' l2'
    rintro e w5 ⟨rfl, hb5⟩
    have H5 := Lib.hid (hX.below hb5)
    have G5 := Lib.hid (only_trans hG (only_of_below hb5 (some g)))
    have nw := H5.out.now
    have fr := H5.out.free 1 (by omega)
    dsimp only at nw
    clear hX hG hb5 hl5
    have HE := Lib.hid hE
    clear hE
    cases ho : least (s.l.set k (m, false)) with
    | none =>
      have HP := Lib.hid (show put s k (m, false) = { s with l := s.l.set k (m, false) } by unfold put; rw [ho]; rfl)
      clear ho
      go_wp2_with fail
      go_end0
      refine ⟨rfl, ?_, G5.out⟩
      rw [HE.out, HP.out]
      exact ⟨_, _, H5.out⟩
    | some y =>
      have HP := Lib.hid (show put s k (m, false) = { s with l := s.l.set k (m, false), now := if s.now < y then y else s.now } by unfold put; rw [ho]; rfl)
      clear ho
      by_cases hy : s.now < y
      · go_wp2_with fail
        go_end0
        refine ⟨rfl, ?_, only_set G5.out (.inl rfl) _⟩
        rw [HE.out, HP.out, if_pos hy]
        exact ⟨_, _, H5.out.setNow y⟩
      · go_wp2_with fail
        go_end0
        refine ⟨rfl, ?_, G5.out⟩
        rw [HE.out, HP.out, if_neg (by omega)]
        exact ⟨_, _, H5.out⟩
theorem rests_cells (k : Nat) (s : St) (b g : Nat) (w : World) (h2 p2 : Nat) (w4 : World) (u1 u2 : Value) (hk : k < s.l.length)
    (ho2 : (Kd.scalar Value.bool (fun _ => rfl)).R 4 w4 w.heap.size (fun k => k ≠ b ∧ k ≠ g) (.slice (some ⟨h2, 0, none⟩) (s.l.map (·.2)).length p2) (s.l.map (·.2)))
    (n2 : h2 ≠ g) (hr : RH w4 g b s u1 u2) :
    w4.cell? ⟨h2, k, none⟩ = some (.bool (s.l.getD k (0, false)).2) ∧ w4.frozen? ⟨h2, k, none⟩ = false ∧
    (w4.cell? ⟨g, 0, none⟩ = some (.int .i64 s.bound) ∧ w4.cell? ⟨g, 1, none⟩ = some (.int .i64 s.now)) ∧ w4.cell? ⟨g, 2, none⟩ = some u1 ∧ w4.cell? ⟨g, 3, none⟩ = some u2 ∧ w4.frozen? ⟨g, 3, none⟩ = false ∧ h2 ≠ g := by
  have c2 := Kd.R_cell false ho2 (k : Int) (by omega) (by rw [List.length_map]; omega)
  rw [rd_snd, Int.toNat_natCast] at c2
  exact ⟨c2.1, c2.2, ⟨hr.bound, hr.now⟩, hr.c2, hr.c3, hr.free 3 (by omega), n2⟩
theorem rests_after (k : Nat) (s : St) (b g : Nat) (w : World) (h2 p2 : Nat) (w4 : World) (u1 u2 : Value) (hu : ∃ A c, u1 = .slice A s.l.length c)
    (ho2 : (Kd.scalar Value.bool (fun _ => rfl)).R 4 w4 w.heap.size (fun k => k ≠ b ∧ k ≠ g) (.slice (some ⟨h2, 0, none⟩) (s.l.map (·.2)).length p2) (s.l.map (·.2)))
    (n2 : h2 ≠ g) (hr : RH w4 g b s u1 u2) :
    RH ((w4.setCell ⟨h2, k, none⟩ (.bool true)).setCell ⟨g, 3, none⟩ (.slice (some ⟨h2, 0, none⟩) s.l.length p2))
      g b { s with l := s.l.set k ((s.l.getD k (0, false)).1, true) } u1 (.slice (some ⟨h2, 0, none⟩) s.l.length p2) := by
  obtain ⟨x2, y2⟩ := Kd.R_typed ho2 h2 rfl
  have a2 := Kd.R_set hr.r1 (g := h2) (t := 4) (cells := x2) y2 (by intro q hq; rw [List.mem_singleton.1 hq]; decide) k (.bool true)
  have a3 := Kd.R_far (p := ⟨g, 3, none⟩) a2 (fun k hk => hk.2) (.slice (some ⟨h2, 0, none⟩) s.l.length p2)
  have b2 := (Kd.R_put ho2 (k : Int) true).1
  rw [Int.toNat_natCast] at b2
  have b3 := Kd.R_far (p := ⟨g, 3, none⟩) b2 (fun k hk => hk.2) (.slice (some ⟨h2, 0, none⟩) s.l.length p2)
  have m1 : s.l.map (·.1) = (s.l.set k ((s.l.getD k (0, false)).1, true)).map (·.1) := by
    rw [List.map_set]
    apply List.ext_getElem?
    intro i
    rw [List.getElem?_set]
    by_cases e : k = i
    · subst e
      rw [if_pos rfl]
      by_cases hk : k < s.l.length
      · rw [if_pos (by rw [List.length_map]; exact hk), List.getElem?_map, List.getD_eq_getElem?_getD, List.getElem?_eq_getElem hk]
        rfl
      · rw [if_neg (by rw [List.length_map]; exact hk), List.getElem?_eq_none (by rw [List.length_map]; omega)]
    · rw [if_neg e]
  have m2 : (s.l.map (·.2)).set k true = (s.l.set k ((s.l.getD k (0, false)).1, true)).map (·.2) := by rw [List.map_set]
  have far : ∀ j : Nat, (w4.setCell ⟨h2, k, none⟩ (.bool true)).cell? ⟨g, j, none⟩ = w4.cell? ⟨g, j, none⟩ := fun j => World.cell?_setCell_other _ _ _ _ (fun e => n2 (by injection e))
  rw [m1] at a3
  rw [m2, List.length_map] at b3
  obtain ⟨A, c, rfl⟩ := hu
  refine ⟨cell_off (by omega) ((far 0).trans hr.bound), cell_off (by omega) ((far 1).trans hr.now), cell_off (by omega) ((far 2).trans hr.c2), World.cell?_setCell_same _ _ _ ((far 3).trans hr.c3), fun j hj => ?_, a3, Kd.R_lower b3 (Nat.zero_le _), hr.ne⟩
  rw [World.frozen?_setCell, World.frozen?_setCell]
  exact hr.free j hj
set_option maxHeartbeats 2000000 in
theorem rrest_any (g b k : Nat) (s : St) (v1 v2 : Value) (w : World) (h : RH w g b s v1 v2) (hk : k < s.l.length) (hn : s.l.length ≤ 16) (hb : b < w.heap.size) :
    Calls Try.prog 37 #[.pointer (some ⟨g, 0, none⟩), .int .i64 k] w fun e w' => e = .returned (.tuple #[]) ∧ (∃ v1 v2, RH w' g b (rest s k) v1 v2) ∧ w.grownBy w' (some g) := by
  obtain ⟨A1, c1, A2, c2, rfl, rfl, l1, l2, C1, C2⟩ := h.len
  have hlt := h.lt
  have hgb := h.ne
  have q2 := h.c3
  have hpos2 : 0 < (s.l.map (·.2)).length := by rw [List.length_map]; omega
  have HP2 := Lib.hid hpos2
  have HH := Lib.hid h
  have HC2 := Lib.hid C2
  clear h C1 C2 hpos2
  have hE : rest s k = put s k ((s.l.getD k (0, false)).1, true) := rfl
  go_enter Try.func37, Try.ntmps37
  go_wp2_with (first
    | ((with_reducible refine gate_dst (N := 7) rfl ?_); refine Kd.R_lit Kd.bool (w0 := w) w.heap.size 4 ?hg (N := 7) ?hd (xs := ([] : List Bool)) (inner := []) (ok := fun k => k ≠ b ∧ k ≠ g) (okp := fun _ => False) ?hr ?hp (fun _ h => h.elim) ?hf (Below.refl _ _) (Nat.le_refl _) (by simp) ?_; (case hd => rfl); (case hg => rfl); (case hr => first | (go_simp; done) | (go_simp; rfl)); (case hp => exact (Reps.none _ _)); (case hf => exact ⟨by omega, by omega⟩); intro v16 w3 ho3 hb3 hg3 _; have HO3 := Lib.hid ho3; have HB3 := Lib.hid hb3; have HR3 := Lib.hid (HH.out.below hb3); have q33 := HR3.out.c3; clear ho3 hb3 hg3 q2)
    | ((with_reducible refine gate_builtin (b := .append) (xs := #[.tmp 7, .tmp 11]) rfl ?_); at_builtin; refine Kd.R_append_row Value.bool false (h1 := fun _ => rfl) (w0 := w) w.heap.size rfl (.tmp 7) (.tmp 11) 29 4 (.bool false) 1 rfl Try.underlying29 infoBool rfl (by omega) v16 [] (s.l.map (·.2)) A2 s.l.length c2 (fun k => k ≠ b ∧ k ≠ g) rfl rfl ?hfr HO3.out ?hC HB3.out HB3.out.size ?hl ?_; (case hfr => exact fun k hk => by have := HB3.out.size; exact ⟨by omega, by omega⟩); (case hC => exact Kd.C_below HC2.out HB3.out); (case hl => simp only [List.length_nil]; omega); intro v7 w4 ho4 hb4 hg4 _; rw [List.nil_append] at ho4; obtain ⟨h2, p2, rfl, hle2, hh2, _⟩ := Kd.R_form ho4 HP2.out; have HO4 := Lib.hid ho4; have HB4 := Lib.hid hb4; have HR4 := Lib.hid (HH.out.below hb4); have tt := rests_cells k s b g w h2 p2 w4 _ _ hk HO4.out (by omega) HR4.out; obtain ⟨k2, f2, e0, e1, e2, e3, n2g⟩ := tt; clear ho4 hb4 hg4 q33))
  have hX := rests_after k s b g w h2 p2 w4 _ _ ⟨A1, c1, rfl⟩ HO4.out n2g HR4.out
  have hG : w.grownBy ((w4.setCell ⟨h2, k, none⟩ (.bool true)).setCell ⟨g, 3, none⟩ (.slice (some ⟨h2, 0, none⟩) s.l.length p2)) (some g) := only_set (p := ⟨g, 3, none⟩) (only_set (p := ⟨h2, k, none⟩) (only_of_below HB4.out (some g)) (.inr hle2) (.bool true)) (.inl rfl) (.slice (some ⟨h2, 0, none⟩) s.l.length p2)
  clear HO3 HO4 HB3 HB4 HR3 HR4 k2 f2 e0 e1 e2 e3 HP2 HC2 HH
  generalize (w4.setCell ⟨h2, k, none⟩ (.bool true)).setCell ⟨g, 3, none⟩ (.slice (some ⟨h2, 0, none⟩) s.l.length p2) = X at hX hG ⊢
  generalize (s.l.getD k (0, false)).1 = m at hX hE
  have hl5 : (s.l.set k (m, true)).length = s.l.length := List.length_set
  obtain ⟨A1', c1', A2', c2', q1, q2, l1', l2', C1', C2'⟩ := hX.len
  dsimp only at q1 q2 l1' l2' C1' C2'
  rw [hl5] at q1 q2 l1' l2' C1' C2'
  injection q1 with q1 _ q1c
  injection q2 with q2 _ q2c
  subst q1 q1c q2 q2c
  have hLs := rleast_any s.bound s.now (s.l.set k (m, true)) (by omega) _ _ c1 p2 X (by rw [hl5]; exact C1') (by rw [hl5]; exact C2') (by omega) (by omega)
  rw [hl5] at hLs
  refine hLs.mono ?_
  clear hLs C1' C2' l1' l2'
  rintro e w5 ⟨rfl, hb5⟩
  have H5 := Lib.hid (hX.below hb5)
  have G5 := Lib.hid (only_trans hG (only_of_below hb5 (some g)))
  have nw := H5.out.now
  have fr := H5.out.free 1 (by omega)
  dsimp only at nw
  clear hX hG hb5 hl5
  have HE := Lib.hid hE
  clear hE
  cases ho : least (s.l.set k (m, true)) with
  | none =>
    have HP := Lib.hid (show put s k (m, true) = { s with l := s.l.set k (m, true) } by unfold put; rw [ho]; rfl)
    clear ho
    go_wp2_with fail
    go_end0
    refine ⟨rfl, ?_, G5.out⟩
    rw [HE.out, HP.out]
    exact ⟨_, _, H5.out⟩
  | some y =>
    have HP := Lib.hid (show put s k (m, true) = { s with l := s.l.set k (m, true), now := if s.now < y then y else s.now } by unfold put; rw [ho]; rfl)
    clear ho
    by_cases hy : s.now < y
    · go_wp2_with fail
      go_end0
      refine ⟨rfl, ?_, only_set G5.out (.inl rfl) _⟩
      rw [HE.out, HP.out, if_pos hy]
      exact ⟨_, _, H5.out.setNow y⟩
    · go_wp2_with fail
      go_end0
      refine ⟨rfl, ?_, G5.out⟩
      rw [HE.out, HP.out, if_neg (by omega)]
      exact ⟨_, _, H5.out⟩
/-! what the printed ones come to -/
theorem rmay_any (s : St) (k t : Int) (A1 A2 : Option Addr) (c1 c2 : Nat) (w : World) (h1 : Kd.C (Kd.int .i64) w A1 s.l.length (s.l.map (·.1))) (h2 : Kd.C Kd.bool w A2 s.l.length (s.l.map (·.2))) (l1 : s.l.length ≤ c1) (l2 : s.l.length ≤ c2) :
    Calls Try.prog 35 #[.agg #[.int .i64 s.bound, .int .i64 s.now, .slice A1 s.l.length c1, .slice A2 s.l.length c2], .int .i64 k, .int .i64 t] w fun e w' => e = .returned (.bool (asked s k t)) ∧ Below w.heap.size w w' := by
  have e1 : (s.l.map (·.1)).length = s.l.length := List.length_map _
  have e2 : (s.l.map (·.2)).length = s.l.length := List.length_map _
  have ha := asked_iff s k t
  unfold PMarks.T at ha
  have hk : freshetref23_May.f s.bound s.now (s.l.map (·.1)) (s.l.map (·.2)) k t = some (asked s k t) := by
    unfold freshetref23_May.f
    rw [e1]
    by_cases c1 : k ≥ 0
    · rw [if_pos c1]
      by_cases c2 : k < (s.l.length : Int)
      · rw [if_pos c2]
        by_cases c3 : t ≥ -1125899906842624
        · rw [if_pos c3]
          congr 1
          rw [Bool.eq_iff_iff, ha, decide_eq_true_iff]
          omega
        · rw [if_neg c3]
          congr 1
          rw [Bool.eq_iff_iff, ha]
          simp only [Bool.false_eq_true, false_iff]
          omega
      · rw [if_neg c2]
        congr 1
        rw [Bool.eq_iff_iff, ha]
        simp only [Bool.false_eq_true, false_iff]
        omega
    · rw [if_neg c1]
      congr 1
      rw [Bool.eq_iff_iff, ha]
      simp only [Bool.false_eq_true, false_iff]
      omega
  have := freshetref23_May.calls s.bound s.now A1 c1 (s.l.map (·.1)) A2 c2 (s.l.map (·.2)) k t _ w (by rw [e1]; exact h1) (by rw [e1]; exact l1) (by rw [e2]; exact h2) (by rw [e2]; exact l2) hk
  rw [e1, e2] at this
  exact this
end Go.Proofs.Ytnkfldoejalpkaa.Marks
