/- Where each source's records come in order but for the bound, none of them is late: the walk of the law. -/
import Derived.Test.YtnkfldoejalpkaaMarksTwice
import Derived.Test.YtnkfldoejalpkaaInts
import Derived.Laws.MakeOwn
namespace Go.Proofs.Ytnkfldoejalpkaa.Marks
open Go.RowKit Aid PMarks Txt Ints
/-- a row of cells that may be written -/
structure Arr (w : World) (g n : Nat) (f : Nat → Value) : Prop where
  cell : ∀ j, j < n → w.cell? ⟨g, j, none⟩ = some (f j)
  free : ∀ j, j < n → w.frozen? ⟨g, j, none⟩ = false
theorem Arr.of_block {w w' : World} {g n : Nat} {f : Nat → Value} (h : Arr w g n f) (hb : w'.heap[g]? = w.heap[g]?) : Arr w' g n f :=
  ⟨fun j hj => (World.cell?_of_block hb).trans (h.cell j hj), fun j hj => (World.frozen?_of_block hb).trans (h.free j hj)⟩
theorem Arr.lt {w : World} {g n : Nat} {f : Nat → Value} (h : Arr w g n f) (hn : 0 < n) : g < w.heap.size := World.block_lt_of_cell? w ⟨g, 0, none⟩ (h.cell 0 hn)
theorem Arr.set_ {w : World} {g n : Nat} {f : Nat → Value} (h : Arr w g n f) (k : Nat) (hk : k < n) (v : Value) : Arr (w.setCell ⟨g, k, none⟩ v) g n (fun j => if j = k then v else f j) := by
  refine ⟨fun j hj => ?_, fun j hj => by rw [World.frozen?_setCell]; exact h.free j hj⟩
  by_cases e : j = k
  · subst e
    rw [if_pos rfl]
    exact World.cell?_setCell_same _ _ _ (h.cell j hj)
  · rw [if_neg e]
    exact cell_off e (h.cell j hj)
theorem Arr.far {w : World} {g n : Nat} {f : Nat → Value} (h : Arr w g n f) {p : Addr} (hp : g ≠ p.block) (v : Value) : Arr (w.setCell p v) g n f := h.of_block (Below.heap_setCell w p v g hp)
theorem Held.far {w : World} {b : Nat} {s : St} (h : Held w b s) {p : Addr} (hp : b ≠ p.block) (v : Value) : Held (w.setCell p v) b s := h.of_block (Below.heap_setCell w p v b hp)
theorem arr_made (w : World) (z : Value) (n : Nat) (t : TypeId) : Arr (w.alloc (.cells (madeCells #[z] n) t)) w.heap.size n (fun _ => z) := by
  have hn := heap_alloc_new w (.cells (madeCells #[z] n) t)
  refine ⟨fun j hj => ?_, fun j _ => frozen_of_row _ _ _ _ _ hn⟩
  rw [cell_of_row _ _ j _ _ _ hn]
  simp [madeCells, hj, Nat.mod_one]
theorem infoI64 : (Try.prog.info? 2).map (fun i => (i.zero, i.size, i.bytes)) = some (some (.int .i64 0), 1, 8) := by kernel_rfl
theorem infoBool : (Try.prog.info? 4).map (fun i => (i.zero, i.size, i.bytes)) = some (some (.bool false), 1, 1) := by kernel_rfl
theorem make_i64 (n : Nat) (hn : n ≤ 1000) (W : World) : (Instr.makeSlice 23 (.int .i64 (n : Int)) (.int .i64 (n : Int))).run Try.prog W = .ok (.slice (some ⟨W.heap.size, 0, none⟩) n n) (W.alloc (.cells (madeCells #[.int .i64 0] n) 2)) := by
  obtain ⟨i0, hi, hz0, hz1, hz2⟩ := info_parts infoI64
  have h := run_make (P := Try.prog) W 23 2 i0 _ Try.underlying23 hi hz0 .i64 .i64 (n : Int) (n : Int) (by omega) (Int.le_refl _) (by rw [hz2]; omega) (by omega)
  have e : (Value.int IntKind.i64 0).cells = #[Value.int IntKind.i64 0] := rfl
  rw [hz1, e] at h
  simpa using h
theorem make_bool (n : Nat) (hn : n ≤ 1000) (W : World) : (Instr.makeSlice 29 (.int .i64 (n : Int)) (.int .i64 (n : Int))).run Try.prog W = .ok (.slice (some ⟨W.heap.size, 0, none⟩) n n) (W.alloc (.cells (madeCells #[.bool false] n) 4)) := by
  obtain ⟨i0, hi, hz0, hz1, hz2⟩ := info_parts infoBool
  have h := run_make (P := Try.prog) W 29 4 i0 _ Try.underlying29 hi hz0 .i64 .i64 (n : Int) (n : Int) (by omega) (Int.le_refl _) (by rw [hz2]; omega) (by omega)
  have e : (Value.bool false).cells = #[Value.bool false] := rfl
  rw [hz1, e] at h
  simpa using h
/-- the greatest record of each source, and its mark -/
structure Track (s : St) (G : Nat → Int) (An : Nat → Bool) : Prop where
  mark : ∀ k, k < s.l.length → s.l.getD k (0, false) = (if An k = true then PMarks.mx (-1125899906842624) (G k - s.bound - 1) else -1125899906842624, false)
  now : ∀ k, k < s.l.length → s.now = -1125899906842624 ∨ s.now ≤ (s.l.getD k (0, false)).1
  big : ∀ k, An k = true → -1125899906842624 < G k ∧ G k ≤ 1125899906842624
theorem Track.step {s : St} {G : Nat → Int} {An : Nat → Bool} (h : Track s G An) (k : Nat) (hk : k < s.l.length) (t : Int) (x : Int) (G' : Nat → Int) (An' : Nat → Bool)
    (hx : PMarks.mx (s.l.getD k (0, false)).1 t = x) (hsame : ∀ j, j ≠ k → G' j = G j ∧ An' j = An j) (hnew : x = if An' k = true then PMarks.mx (-1125899906842624) (G' k - s.bound - 1) else -1125899906842624)
    (hbig : ∀ j, An' j = true → -1125899906842624 < G' j ∧ G' j ≤ 1125899906842624) : Track (tell s k t) G' An' := by
  have hm : ∀ j, j < s.l.length → (tell s k t).l.getD j (0, false) = if j = k then (x, false) else s.l.getD j (0, false) := by
    intro j hj
    unfold tell put
    dsimp only
    rw [hx, List.getD_eq_getElem?_getD, List.getElem?_set]
    by_cases e : k = j
    · subst e; rw [if_pos rfl, if_pos hk, if_pos rfl]; rfl
    · rw [if_neg e, if_neg (fun h => e h.symm), List.getD_eq_getElem?_getD]
  have hle : (s.l.getD k (0, false)).1 ≤ x := by rw [← hx]; unfold PMarks.mx; split <;> omega
  have hlen : (tell s k t).l.length = s.l.length := put_length _ _ _
  refine ⟨fun j hj => ?_, fun j hj => ?_, hbig⟩
  · rw [hlen] at hj
    rw [hm j hj]
    by_cases e : j = k
    · subst e; rw [if_pos rfl, hnew]; rfl
    · rw [if_neg e, h.mark j hj, (hsame j e).1, (hsame j e).2]; rfl
  · rw [hlen] at hj
    have hj2 := hm j hj
    have hml : (s.l.getD j (0, false)).1 ≤ ((tell s k t).l.getD j (0, false)).1 := by
      rw [hj2]
      by_cases e : j = k
      · subst e; rw [if_pos rfl]; exact hle
      · rw [if_neg e]; exact Int.le_refl _
    have hn : (tell s k t).now = s.now ∨ least (tell s k t).l = some (tell s k t).now := by
      show mxo s.now (least (tell s k t).l) = s.now ∨ least (tell s k t).l = some (mxo s.now (least (tell s k t).l))
      cases hl : least (tell s k t).l with
      | none => exact .inl rfl
      | some y =>
        simp only [mxo]
        split
        · exact .inr rfl
        · exact .inl rfl
    rcases hn with hn | hn
    · rw [hn]
      rcases h.now j hj with h1 | h1
      · exact .inl h1
      · exact .inr (Int.le_trans h1 hml)
    · refine .inr (least_le hn ?_)
      have hidle : ((tell s k t).l.getD j (0, false)).2 = false := by
        rw [hj2]
        by_cases e : j = k
        · rw [if_pos e]
        · rw [if_neg e, h.mark j hj]
      have hget : (tell s k t).l.getD j (0, false) ∈ (tell s k t).l := by
        rw [List.getD_eq_getElem?_getD, List.getElem?_eq_getElem (by rw [hlen]; exact hj)]
        exact List.getElem_mem _
      generalize (tell s k t).l.getD j (0, false) = y at hget hidle
      obtain ⟨y1, y2⟩ := y
      subst hidle
      exact hget
/-- a new greatest record -/
theorem Track.new {s : St} {G : Nat → Int} {An : Nat → Bool} (h : Track s G An) (k : Nat) (hk : k < s.l.length) (t : Int) (t0 : -1125899906842624 < t) (t1 : t ≤ 1125899906842624) (hc : An k = true → G k < t) :
    Track (tell s k (t - s.bound - 1)) (fun j => if j = k then t else G j) (fun j => if j = k then true else An j) := by
  refine h.step k hk _ (PMarks.mx (-1125899906842624) (t - s.bound - 1)) _ _ ?_ (fun j hj => ⟨if_neg hj, if_neg hj⟩) ?_ (fun j hj => ?_)
  · rw [h.mark k hk]
    cases ha : An k with
    | true =>
      have := hc ha
      simp only [if_true, PMarks.mx]
      split <;> split <;> (try split) <;> omega
    | false => simp
  · simp
  · by_cases e : j = k
    · simp only [if_pos e]; exact ⟨t0, t1⟩
    · simp only [if_neg e] at hj ⊢; exact h.big j hj
/-- one that is not greater -/
theorem Track.old {s : St} {G : Nat → Int} {An : Nat → Bool} (h : Track s G An) (k : Nat) (hk : k < s.l.length) (t : Int) (ha : An k = true) (hc : t ≤ G k) : Track (tell s k (t - s.bound - 1)) G An := by
  refine h.step k hk _ (PMarks.mx (-1125899906842624) (G k - s.bound - 1)) _ _ ?_ (fun j hj => ⟨rfl, rfl⟩) (by rw [if_pos ha]) h.big
  rw [h.mark k hk, if_pos ha]
  simp only [PMarks.mx]
  split <;> split <;> omega
/-- it is not late -/
theorem Track.fresh {s : St} {G : Nat → Int} {An : Nat → Bool} (h : Track s G An) (k : Nat) (hk : k < s.l.length) (t : Int) (t0 : -1125899906842624 < t) (hc : An k = true → G k - s.bound ≤ t) : s.now < t := by
  have hn := h.now k hk
  rw [h.mark k hk] at hn
  cases ha : An k with
  | true =>
    have := hc ha
    simp only [ha, if_true, PMarks.mx] at hn
    split at hn <;> omega
  | false =>
    simp only [ha, Bool.false_eq_true, if_false] at hn
    omega
theorem track_mk0 (n : Nat) (bound : Int) : Track (mk0 n bound) (fun _ => 0) (fun _ => false) := by
  refine ⟨fun k hk => ?_, fun k hk => .inl rfl, fun k h => by cases h⟩
  have hk2 : k < n := by simpa [mk0] using hk
  show (List.replicate n ((-PMarks.T : Int), false)).getD k (0, false) = _
  rw [List.getD_eq_getElem?_getD, List.getElem?_replicate, if_pos hk2]
  rfl
set_option maxRecDepth 100000 in
set_option maxHeartbeats 2000000 in
theorem lawOrder (n bound : Int) (a : Option Addr) (cap : Nat) (l : List Int) (a2 : Option Addr) (cap2 : Nat) (l2 : List Int) (w : World) (hl2 : l2.length ≤ cap2) (hc2 : cap2 ≤ 9223372036854775807) (ho : IntsAt w .i64 a l) (ho2 : IntsAt w .i64 a2 l2) :
    Calls Try.prog 3 #[.int .i64 n, .int .i64 bound, .slice a l.length cap, .slice a2 l2.length cap2] w fun e w' => e = .returned (.bool true) ∧ Below w.heap.size w w' := by
  have HO := Lib.hid ho
  have HO2 := Lib.hid ho2
  clear ho ho2
  cases hf : fit n bound with
  | false =>
    have HN := Lib.hid fun w => new_bad n bound hf w
    clear hf
    go_enter Try.func3, Try.ntmps3
    go_wp2_with fail
    refine (HN.out _).mono ?_
    rintro e w1 ⟨rfl, rfl⟩
    go_wp2_with fail
    refine (awake_any _).mono ?_
    rintro e w2 ⟨rfl, hb⟩
    go_wp2_with fail
    go_ret
    exact ⟨rfl, hb⟩
  | true =>
    obtain ⟨q, rfl, q1, q2, q3, q4⟩ := fit_nat hf
    have HN := Lib.hid fun w => new_any q bound q1 q2 q3 q4 w
    have hg := good_mk0 q bound q1 q3 q4
    have ht := track_mk0 q bound
    have hln : (mk0 q bound).l.length = q := List.length_replicate
    have hbd : (mk0 q bound).bound = bound := rfl
    generalize mk0 q bound = s at HN hg ht hln hbd
    by_cases hlen : 200 < l.length
    · have h2 : (200 : Int) < (l.length : Int) := by omega
      clear hf hln hbd
      go_enter Try.func3, Try.ntmps3
      go_wp2_with fail
      refine (HN.out _).mono ?_
      rintro e w1 ⟨b, rfl, hb, h0, hB⟩
      go_wp2_with fail
      refine (awake_any _).mono ?_
      rintro e w2 ⟨rfl, hb2⟩
      go_wp2_with fail
      go_ret
      exact ⟨rfl, hB.trans (hb2.mono hB.size)⟩
    · have h2 : (l.length : Int) ≤ 200 := by omega
      have hz2 : (l2.length : Int) ≤ 9223372036854775807 := by omega
      have HG := Lib.hid hg
      have HT := Lib.hid ht
      have HQ := Lib.hid hln
      have HD := Lib.hid hbd
      clear hf hg ht hln hbd
      have qz : ((q : Int) == 0) = false := beq_eq_false_iff_ne.2 (by omega)
      have hmk1 := fun W => make_i64 q (by omega) W
      have hmk2 := fun W => make_bool q (by omega) W
      have q0 : 0 ≤ (q : Int) := by omega
      go_enter Try.func3, Try.ntmps3
      go_wp2_with fail
      refine (HN.out _).mono ?_
      rintro e w1 ⟨b, rfl, hb, h0, hB⟩
      have a1 := arr_made w1 (.int .i64 0) q 2
      have a2_ := arr_made (w1.alloc (.cells (madeCells #[.int .i64 0] q) 2)) (.bool false) q 4
      have hs1 : (w1.alloc (.cells (madeCells #[.int .i64 0] q) 2)).heap.size = w1.heap.size + 1 := by simp
      rw [hs1] at a2_
      have hbb : Below w1.heap.size w1 ((w1.alloc (.cells (madeCells #[.int .i64 0] q) 2)).alloc (.cells (madeCells #[.bool false] q) 4)) := ((Below.refl _ _).alloc (Nat.le_refl _) _).alloc (by simp) _
      have HB0 := Lib.hid (hB.trans (hbb.mono hB.size))
      have hlt := h0.lt
      have H0 := Lib.hid (h0.below hbb h0.lt)
      have A1 := Lib.hid (a1.of_block (w' := (w1.alloc (.cells (madeCells #[.int .i64 0] q) 2)).alloc (.cells (madeCells #[.bool false] q) 4)) (Below.heap_alloc _ _ _ (by rw [hs1]; omega)))
      have A2 := Lib.hid a2_
      have hbw : w.heap.size ≤ b := hb
      have hgw : w.heap.size ≤ w1.heap.size := hB.size
      clear hB h0 hb hbb a1 a2_ hs1
      go_wp2_with fail
      clear hmk1 hmk2
      generalize (w1.alloc (.cells (madeCells #[.int .i64 0] q) 2)).alloc (.cells (madeCells #[.bool false] q) 4) = W1 at HB0 H0 A1 A2 ⊢
      generalize w1.heap.size = g at A1 A2 hlt hgw ⊢
      have g12 : g ≠ g + 1 := by omega
      have gb : g ≠ b := by omega
      have gb2 : g + 1 ≠ b := by omega
      go_loopw [13] (fun v13 wr => ∃ (i : Nat) (s : St) (G : Nat → Int) (An : Nat → Bool), i ≤ l.length ∧ v13 = .int .i64 i ∧ Good s ∧ s.l.length = q ∧ s.bound = bound ∧ Track s G An ∧ Held wr b s ∧ Arr wr g q (fun j => .int .i64 (G j)) ∧ Arr wr (g + 1) q (fun j => .bool (An j)) ∧ Below w.heap.size w wr) (fun v13 _ => l.length - (intOf v13).toNat)
      case atStart => exact ⟨0, s, fun _ => 0, fun _ => false, by omega, rfl, HG.out, HQ.out, HD.out, HT.out, H0.out, A1.out, A2.out, HB0.out⟩
      case round =>
        clear HG HT HQ HD H0 A1 A2 HB0 HN
        obtain ⟨i, sr, G, An, hi, rfl, hg, hq, hbd, ht, hH, hA1, hA2, hw⟩ := hrel
        by_cases hlt1 : i < l.length
        · have t1 : ((i : Int) < (l.length : Int)) = True := eq_true (by omega)
          by_cases hlt2 : i < l2.length
          · have t2 : ((i : Int) < (l2.length : Int)) = True := eq_true (by omega)
            obtain ⟨⟨ad, rfl, c0⟩, wf0⟩ := HO.out.below hw i hlt1
            obtain ⟨⟨ad2, rfl, c1⟩, wf1⟩ := HO2.out.below hw i hlt2
            generalize l[i] = z at c0 wf0
            generalize l2[i] = t at c1 wf1
            have hm0 := Int.tmod_lt_of_pos z (show 0 < (q : Int) by omega)
            have hm1 : -(q : Int) < Int.tmod z (q : Int) := by
              have := Int.tmod_lt_of_pos (-z) (show 0 < (q : Int) by omega)
              rw [Int.neg_tmod] at this
              omega
            have HGS := Lib.hid hg
            have HQS := Lib.hid hq
            have HDS := Lib.hid hbd
            have HT := Lib.hid ht
            have HA := Lib.hid hH
            have HA1 := Lib.hid hA1
            have HA2 := Lib.hid hA2
            have HW := Lib.hid hw
            have b0 := hg.lo
            have b1 := hg.hi
            rw [hbd] at b0 b1
            clear hg hq hbd ht hH hA1 hA2 hw wf0 wf1
            have hM : ∃ m, m = Int.tmod z (q : Int) := ⟨_, rfl⟩
            obtain ⟨m, hm⟩ := hM
            rw [← hm] at hm0 hm1
            have e1 : IntKind.i64.wrap (Int.tmod z (q : Int)) = m := by rw [← hm, IntKind.wrap_i64]; omega
            have e2 : Int.tmod z (q : Int) = m := hm.symm
            clear hm
            by_cases hneg : m < 0
            · obtain ⟨K, hK⟩ : ∃ K : Nat, m + (q : Int) = K := ⟨(m + (q : Int)).toNat, by omega⟩
              have hK2 : K < q := by omega
              have e3 : IntKind.i64.wrap (m + (q : Int)) = K := by rw [IntKind.wrap_i64]; omega
              have k1 := HA1.out.cell K hK2
              have k2 := HA2.out.cell K hK2
              have k3 := HA1.out.free K hK2
              have k4 := HA2.out.free K hK2
              have kk0 : 0 ≤ (K : Int) := by omega
              have hbig := HT.out.big K
              by_cases s1 : t ≤ -1125899906842624
              · go_wp2_with fail
                go_roundw
                case rel => exact ⟨i + 1, sr, G, An, by omega, by go_num, HGS.out, HQS.out, HDS.out, HT.out, HA.out, HA1.out, HA2.out, HW.out⟩
                case measure => simp [intOf]; omega
              · by_cases s2 : 1125899906842624 < t
                · go_wp2_with fail
                  go_roundw
                  case rel => exact ⟨i + 1, sr, G, An, by omega, by go_num, HGS.out, HQS.out, HDS.out, HT.out, HA.out, HA1.out, HA2.out, HW.out⟩
                  case measure => simp [intOf]; omega
                · cases ha : An K with
                  | false =>
                    rw [ha] at k2
                    clear hbig
                    have hs : see sr (K : Int) t = (tell sr K (t - sr.bound - 1), false, 0) := by
                      unfold see
                      rw [if_pos ((asked_iff _ _ _).2 (by rw [HQS.out]; unfold PMarks.T; omega)), Int.toNat_natCast, decide_eq_false (Int.not_le.2 (HT.out.fresh K (by rw [HQS.out]; exact hK2) t (by omega) (fun h => by rw [ha] at h; cases h)))]
                    have g3 := HGS.out.tell K (t - sr.bound - 1)
                    have n3 : (tell sr K (t - sr.bound - 1)).l.length = q := (put_length _ _ _).trans HQS.out
                    have d3 : (tell sr K (t - sr.bound - 1)).bound = bound := HDS.out
                    have t3 := HT.out.new K (by rw [HQS.out]; exact hK2) t (by omega) (by omega) (fun h => by rw [ha] at h; cases h)
                    have hh3 : Held ((wr.setCell ⟨g, K, none⟩ (.int .i64 t)).setCell ⟨g + 1, K, none⟩ (.bool true)) b sr := (HA.out.far gb.symm _).far gb2.symm _
                    have x1 : Arr ((wr.setCell ⟨g, K, none⟩ (.int .i64 t)).setCell ⟨g + 1, K, none⟩ (.bool true)) g q (fun j => .int .i64 (if j = K then t else G j)) := by
                      have := (HA1.out.set_ K hK2 (.int .i64 t)).far (p := ⟨g + 1, K, none⟩) g12 (.bool true)
                      refine ⟨fun j hj => (this.cell j hj).trans ?_, this.free⟩
                      by_cases e : j = K <;> simp [e]
                    have x2 : Arr ((wr.setCell ⟨g, K, none⟩ (.int .i64 t)).setCell ⟨g + 1, K, none⟩ (.bool true)) (g + 1) q (fun j => .bool (if j = K then true else An j)) := by
                      have := (HA2.out.far (p := ⟨g, K, none⟩) g12.symm (.int .i64 t)).set_ K hK2 (.bool true)
                      refine ⟨fun j hj => (this.cell j hj).trans ?_, this.free⟩
                      by_cases e : j = K <;> simp [e]
                    have x3 : Below w.heap.size w ((wr.setCell ⟨g, K, none⟩ (.int .i64 t)).setCell ⟨g + 1, K, none⟩ (.bool true)) := (HW.out.setCell (p := ⟨g, K, none⟩) hgw _).setCell (p := ⟨g + 1, K, none⟩) (by show _ ≤ g + 1; omega) _
                    have HC := Lib.hid (see_at hh3 HGS.out hs)
                    have G3 := Lib.hid g3
                    have N3 := Lib.hid n3
                    have D3 := Lib.hid d3
                    have T3 := Lib.hid t3
                    have X1 := Lib.hid x1
                    have X2 := Lib.hid x2
                    have X3 := Lib.hid x3
                    clear ha hs g3 n3 d3 t3 x1 x2 x3 hh3
                    go_wp2_with fail
                    refine (HC.out).mono ?_
                    rintro e w3 ⟨rfl, h3, k3⟩
                    have Y1 := Lib.hid (X1.out.of_block (k3.block g (X1.out.lt (by omega)) (by intro e; injection e with e; exact gb e)))
                    have Y2 := Lib.hid (X2.out.of_block (k3.block (g + 1) (X2.out.lt (by omega)) (by intro e; injection e with e; exact gb2 e)))
                    have Y3 := Lib.hid (below_of_only X3.out hbw k3)
                    have H3 := Lib.hid h3
                    clear h3 k3
                    go_wp2_with fail
                    go_roundw
                    case rel => exact ⟨i + 1, _, _, _, by omega, by go_num, G3.out, N3.out, D3.out, T3.out, H3.out, Y1.out, Y2.out, Y3.out⟩
                    case measure => simp [intOf]; omega
                  | true =>
                    rw [ha] at k2
                    have hb1 := hbig ha
                    clear hbig
                    by_cases s3 : t < G K - bound
                    · clear ha
                      go_wp2_with fail
                      go_roundw
                      case rel => exact ⟨i + 1, sr, G, An, by omega, by go_num, HGS.out, HQS.out, HDS.out, HT.out, HA.out, HA1.out, HA2.out, HW.out⟩
                      case measure => simp [intOf]; omega
                    · by_cases s4 : G K < t
                      · have hs : see sr (K : Int) t = (tell sr K (t - sr.bound - 1), false, 0) := by
                          unfold see
                          rw [if_pos ((asked_iff _ _ _).2 (by rw [HQS.out]; unfold PMarks.T; omega)), Int.toNat_natCast, decide_eq_false (Int.not_le.2 (HT.out.fresh K (by rw [HQS.out]; exact hK2) t (by omega) (fun _ => by rw [HDS.out]; omega)))]
                        have g3 := HGS.out.tell K (t - sr.bound - 1)
                        have n3 : (tell sr K (t - sr.bound - 1)).l.length = q := (put_length _ _ _).trans HQS.out
                        have d3 : (tell sr K (t - sr.bound - 1)).bound = bound := HDS.out
                        have t3 := HT.out.new K (by rw [HQS.out]; exact hK2) t (by omega) (by omega) (fun _ => s4)
                        have hh3 : Held ((wr.setCell ⟨g, K, none⟩ (.int .i64 t)).setCell ⟨g + 1, K, none⟩ (.bool true)) b sr := (HA.out.far gb.symm _).far gb2.symm _
                        have x1 : Arr ((wr.setCell ⟨g, K, none⟩ (.int .i64 t)).setCell ⟨g + 1, K, none⟩ (.bool true)) g q (fun j => .int .i64 (if j = K then t else G j)) := by
                          have := (HA1.out.set_ K hK2 (.int .i64 t)).far (p := ⟨g + 1, K, none⟩) g12 (.bool true)
                          refine ⟨fun j hj => (this.cell j hj).trans ?_, this.free⟩
                          by_cases e : j = K <;> simp [e]
                        have x2 : Arr ((wr.setCell ⟨g, K, none⟩ (.int .i64 t)).setCell ⟨g + 1, K, none⟩ (.bool true)) (g + 1) q (fun j => .bool (if j = K then true else An j)) := by
                          have := (HA2.out.far (p := ⟨g, K, none⟩) g12.symm (.int .i64 t)).set_ K hK2 (.bool true)
                          refine ⟨fun j hj => (this.cell j hj).trans ?_, this.free⟩
                          by_cases e : j = K <;> simp [e]
                        have x3 : Below w.heap.size w ((wr.setCell ⟨g, K, none⟩ (.int .i64 t)).setCell ⟨g + 1, K, none⟩ (.bool true)) := (HW.out.setCell (p := ⟨g, K, none⟩) hgw _).setCell (p := ⟨g + 1, K, none⟩) (by show _ ≤ g + 1; omega) _
                        have HC := Lib.hid (see_at hh3 HGS.out hs)
                        have G3 := Lib.hid g3
                        have N3 := Lib.hid n3
                        have D3 := Lib.hid d3
                        have T3 := Lib.hid t3
                        have X1 := Lib.hid x1
                        have X2 := Lib.hid x2
                        have X3 := Lib.hid x3
                        clear ha hs g3 n3 d3 t3 x1 x2 x3 hh3
                        go_wp2_with fail
                        refine (HC.out).mono ?_
                        rintro e w3 ⟨rfl, h3, k3⟩
                        have Y1 := Lib.hid (X1.out.of_block (k3.block g (X1.out.lt (by omega)) (by intro e; injection e with e; exact gb e)))
                        have Y2 := Lib.hid (X2.out.of_block (k3.block (g + 1) (X2.out.lt (by omega)) (by intro e; injection e with e; exact gb2 e)))
                        have Y3 := Lib.hid (below_of_only X3.out hbw k3)
                        have H3 := Lib.hid h3
                        clear h3 k3
                        go_wp2_with fail
                        go_roundw
                        case rel => exact ⟨i + 1, _, _, _, by omega, by go_num, G3.out, N3.out, D3.out, T3.out, H3.out, Y1.out, Y2.out, Y3.out⟩
                        case measure => simp [intOf]; omega
                      · have hs : see sr (K : Int) t = (tell sr K (t - sr.bound - 1), false, 0) := by
                          unfold see
                          rw [if_pos ((asked_iff _ _ _).2 (by rw [HQS.out]; unfold PMarks.T; omega)), Int.toNat_natCast, decide_eq_false (Int.not_le.2 (HT.out.fresh K (by rw [HQS.out]; exact hK2) t (by omega) (fun _ => by rw [HDS.out]; omega)))]
                        have g3 := HGS.out.tell K (t - sr.bound - 1)
                        have n3 : (tell sr K (t - sr.bound - 1)).l.length = q := (put_length _ _ _).trans HQS.out
                        have d3 : (tell sr K (t - sr.bound - 1)).bound = bound := HDS.out
                        have t3 := HT.out.old K (by rw [HQS.out]; exact hK2) t ha (by omega)
                        have hh3 := HA.out
                        have x1 := HA1.out
                        have x2 := HA2.out
                        have x3 := HW.out
                        have HC := Lib.hid (see_at hh3 HGS.out hs)
                        have G3 := Lib.hid g3
                        have N3 := Lib.hid n3
                        have D3 := Lib.hid d3
                        have T3 := Lib.hid t3
                        have X1 := Lib.hid x1
                        have X2 := Lib.hid x2
                        have X3 := Lib.hid x3
                        clear ha hs g3 n3 d3 t3 x1 x2 x3 hh3
                        go_wp2_with fail
                        refine (HC.out).mono ?_
                        rintro e w3 ⟨rfl, h3, k3⟩
                        have Y1 := Lib.hid (X1.out.of_block (k3.block g (X1.out.lt (by omega)) (by intro e; injection e with e; exact gb e)))
                        have Y2 := Lib.hid (X2.out.of_block (k3.block (g + 1) (X2.out.lt (by omega)) (by intro e; injection e with e; exact gb2 e)))
                        have Y3 := Lib.hid (below_of_only X3.out hbw k3)
                        have H3 := Lib.hid h3
                        clear h3 k3
                        go_wp2_with fail
                        go_roundw
                        case rel => exact ⟨i + 1, _, _, _, by omega, by go_num, G3.out, N3.out, D3.out, T3.out, H3.out, Y1.out, Y2.out, Y3.out⟩
                        case measure => simp [intOf]; omega
            · obtain ⟨K, hK⟩ : ∃ K : Nat, m = K := ⟨m.toNat, by omega⟩
              subst hK
              have hK2 : K < q := by omega
              have k1 := HA1.out.cell K hK2
              have k2 := HA2.out.cell K hK2
              have k3 := HA1.out.free K hK2
              have k4 := HA2.out.free K hK2
              have kk0 : 0 ≤ (K : Int) := by omega
              have hbig := HT.out.big K
              by_cases s1 : t ≤ -1125899906842624
              · go_wp2_with fail
                go_roundw
                case rel => exact ⟨i + 1, sr, G, An, by omega, by go_num, HGS.out, HQS.out, HDS.out, HT.out, HA.out, HA1.out, HA2.out, HW.out⟩
                case measure => simp [intOf]; omega
              · by_cases s2 : 1125899906842624 < t
                · go_wp2_with fail
                  go_roundw
                  case rel => exact ⟨i + 1, sr, G, An, by omega, by go_num, HGS.out, HQS.out, HDS.out, HT.out, HA.out, HA1.out, HA2.out, HW.out⟩
                  case measure => simp [intOf]; omega
                · cases ha : An K with
                  | false =>
                    rw [ha] at k2
                    clear hbig
                    have hs : see sr (K : Int) t = (tell sr K (t - sr.bound - 1), false, 0) := by
                      unfold see
                      rw [if_pos ((asked_iff _ _ _).2 (by rw [HQS.out]; unfold PMarks.T; omega)), Int.toNat_natCast, decide_eq_false (Int.not_le.2 (HT.out.fresh K (by rw [HQS.out]; exact hK2) t (by omega) (fun h => by rw [ha] at h; cases h)))]
                    have g3 := HGS.out.tell K (t - sr.bound - 1)
                    have n3 : (tell sr K (t - sr.bound - 1)).l.length = q := (put_length _ _ _).trans HQS.out
                    have d3 : (tell sr K (t - sr.bound - 1)).bound = bound := HDS.out
                    have t3 := HT.out.new K (by rw [HQS.out]; exact hK2) t (by omega) (by omega) (fun h => by rw [ha] at h; cases h)
                    have hh3 : Held ((wr.setCell ⟨g, K, none⟩ (.int .i64 t)).setCell ⟨g + 1, K, none⟩ (.bool true)) b sr := (HA.out.far gb.symm _).far gb2.symm _
                    have x1 : Arr ((wr.setCell ⟨g, K, none⟩ (.int .i64 t)).setCell ⟨g + 1, K, none⟩ (.bool true)) g q (fun j => .int .i64 (if j = K then t else G j)) := by
                      have := (HA1.out.set_ K hK2 (.int .i64 t)).far (p := ⟨g + 1, K, none⟩) g12 (.bool true)
                      refine ⟨fun j hj => (this.cell j hj).trans ?_, this.free⟩
                      by_cases e : j = K <;> simp [e]
                    have x2 : Arr ((wr.setCell ⟨g, K, none⟩ (.int .i64 t)).setCell ⟨g + 1, K, none⟩ (.bool true)) (g + 1) q (fun j => .bool (if j = K then true else An j)) := by
                      have := (HA2.out.far (p := ⟨g, K, none⟩) g12.symm (.int .i64 t)).set_ K hK2 (.bool true)
                      refine ⟨fun j hj => (this.cell j hj).trans ?_, this.free⟩
                      by_cases e : j = K <;> simp [e]
                    have x3 : Below w.heap.size w ((wr.setCell ⟨g, K, none⟩ (.int .i64 t)).setCell ⟨g + 1, K, none⟩ (.bool true)) := (HW.out.setCell (p := ⟨g, K, none⟩) hgw _).setCell (p := ⟨g + 1, K, none⟩) (by show _ ≤ g + 1; omega) _
                    have HC := Lib.hid (see_at hh3 HGS.out hs)
                    have G3 := Lib.hid g3
                    have N3 := Lib.hid n3
                    have D3 := Lib.hid d3
                    have T3 := Lib.hid t3
                    have X1 := Lib.hid x1
                    have X2 := Lib.hid x2
                    have X3 := Lib.hid x3
                    clear ha hs g3 n3 d3 t3 x1 x2 x3 hh3
                    go_wp2_with fail
                    refine (HC.out).mono ?_
                    rintro e w3 ⟨rfl, h3, k3⟩
                    have Y1 := Lib.hid (X1.out.of_block (k3.block g (X1.out.lt (by omega)) (by intro e; injection e with e; exact gb e)))
                    have Y2 := Lib.hid (X2.out.of_block (k3.block (g + 1) (X2.out.lt (by omega)) (by intro e; injection e with e; exact gb2 e)))
                    have Y3 := Lib.hid (below_of_only X3.out hbw k3)
                    have H3 := Lib.hid h3
                    clear h3 k3
                    go_wp2_with fail
                    go_roundw
                    case rel => exact ⟨i + 1, _, _, _, by omega, by go_num, G3.out, N3.out, D3.out, T3.out, H3.out, Y1.out, Y2.out, Y3.out⟩
                    case measure => simp [intOf]; omega
                  | true =>
                    rw [ha] at k2
                    have hb1 := hbig ha
                    clear hbig
                    by_cases s3 : t < G K - bound
                    · clear ha
                      go_wp2_with fail
                      go_roundw
                      case rel => exact ⟨i + 1, sr, G, An, by omega, by go_num, HGS.out, HQS.out, HDS.out, HT.out, HA.out, HA1.out, HA2.out, HW.out⟩
                      case measure => simp [intOf]; omega
                    · by_cases s4 : G K < t
                      · have hs : see sr (K : Int) t = (tell sr K (t - sr.bound - 1), false, 0) := by
                          unfold see
                          rw [if_pos ((asked_iff _ _ _).2 (by rw [HQS.out]; unfold PMarks.T; omega)), Int.toNat_natCast, decide_eq_false (Int.not_le.2 (HT.out.fresh K (by rw [HQS.out]; exact hK2) t (by omega) (fun _ => by rw [HDS.out]; omega)))]
                        have g3 := HGS.out.tell K (t - sr.bound - 1)
                        have n3 : (tell sr K (t - sr.bound - 1)).l.length = q := (put_length _ _ _).trans HQS.out
                        have d3 : (tell sr K (t - sr.bound - 1)).bound = bound := HDS.out
                        have t3 := HT.out.new K (by rw [HQS.out]; exact hK2) t (by omega) (by omega) (fun _ => s4)
                        have hh3 : Held ((wr.setCell ⟨g, K, none⟩ (.int .i64 t)).setCell ⟨g + 1, K, none⟩ (.bool true)) b sr := (HA.out.far gb.symm _).far gb2.symm _
                        have x1 : Arr ((wr.setCell ⟨g, K, none⟩ (.int .i64 t)).setCell ⟨g + 1, K, none⟩ (.bool true)) g q (fun j => .int .i64 (if j = K then t else G j)) := by
                          have := (HA1.out.set_ K hK2 (.int .i64 t)).far (p := ⟨g + 1, K, none⟩) g12 (.bool true)
                          refine ⟨fun j hj => (this.cell j hj).trans ?_, this.free⟩
                          by_cases e : j = K <;> simp [e]
                        have x2 : Arr ((wr.setCell ⟨g, K, none⟩ (.int .i64 t)).setCell ⟨g + 1, K, none⟩ (.bool true)) (g + 1) q (fun j => .bool (if j = K then true else An j)) := by
                          have := (HA2.out.far (p := ⟨g, K, none⟩) g12.symm (.int .i64 t)).set_ K hK2 (.bool true)
                          refine ⟨fun j hj => (this.cell j hj).trans ?_, this.free⟩
                          by_cases e : j = K <;> simp [e]
                        have x3 : Below w.heap.size w ((wr.setCell ⟨g, K, none⟩ (.int .i64 t)).setCell ⟨g + 1, K, none⟩ (.bool true)) := (HW.out.setCell (p := ⟨g, K, none⟩) hgw _).setCell (p := ⟨g + 1, K, none⟩) (by show _ ≤ g + 1; omega) _
                        have HC := Lib.hid (see_at hh3 HGS.out hs)
                        have G3 := Lib.hid g3
                        have N3 := Lib.hid n3
                        have D3 := Lib.hid d3
                        have T3 := Lib.hid t3
                        have X1 := Lib.hid x1
                        have X2 := Lib.hid x2
                        have X3 := Lib.hid x3
                        clear ha hs g3 n3 d3 t3 x1 x2 x3 hh3
                        go_wp2_with fail
                        refine (HC.out).mono ?_
                        rintro e w3 ⟨rfl, h3, k3⟩
                        have Y1 := Lib.hid (X1.out.of_block (k3.block g (X1.out.lt (by omega)) (by intro e; injection e with e; exact gb e)))
                        have Y2 := Lib.hid (X2.out.of_block (k3.block (g + 1) (X2.out.lt (by omega)) (by intro e; injection e with e; exact gb2 e)))
                        have Y3 := Lib.hid (below_of_only X3.out hbw k3)
                        have H3 := Lib.hid h3
                        clear h3 k3
                        go_wp2_with fail
                        go_roundw
                        case rel => exact ⟨i + 1, _, _, _, by omega, by go_num, G3.out, N3.out, D3.out, T3.out, H3.out, Y1.out, Y2.out, Y3.out⟩
                        case measure => simp [intOf]; omega
                      · have hs : see sr (K : Int) t = (tell sr K (t - sr.bound - 1), false, 0) := by
                          unfold see
                          rw [if_pos ((asked_iff _ _ _).2 (by rw [HQS.out]; unfold PMarks.T; omega)), Int.toNat_natCast, decide_eq_false (Int.not_le.2 (HT.out.fresh K (by rw [HQS.out]; exact hK2) t (by omega) (fun _ => by rw [HDS.out]; omega)))]
                        have g3 := HGS.out.tell K (t - sr.bound - 1)
                        have n3 : (tell sr K (t - sr.bound - 1)).l.length = q := (put_length _ _ _).trans HQS.out
                        have d3 : (tell sr K (t - sr.bound - 1)).bound = bound := HDS.out
                        have t3 := HT.out.old K (by rw [HQS.out]; exact hK2) t ha (by omega)
                        have hh3 := HA.out
                        have x1 := HA1.out
                        have x2 := HA2.out
                        have x3 := HW.out
                        have HC := Lib.hid (see_at hh3 HGS.out hs)
                        have G3 := Lib.hid g3
                        have N3 := Lib.hid n3
                        have D3 := Lib.hid d3
                        have T3 := Lib.hid t3
                        have X1 := Lib.hid x1
                        have X2 := Lib.hid x2
                        have X3 := Lib.hid x3
                        clear ha hs g3 n3 d3 t3 x1 x2 x3 hh3
                        go_wp2_with fail
                        refine (HC.out).mono ?_
                        rintro e w3 ⟨rfl, h3, k3⟩
                        have Y1 := Lib.hid (X1.out.of_block (k3.block g (X1.out.lt (by omega)) (by intro e; injection e with e; exact gb e)))
                        have Y2 := Lib.hid (X2.out.of_block (k3.block (g + 1) (X2.out.lt (by omega)) (by intro e; injection e with e; exact gb2 e)))
                        have Y3 := Lib.hid (below_of_only X3.out hbw k3)
                        have H3 := Lib.hid h3
                        clear h3 k3
                        go_wp2_with fail
                        go_roundw
                        case rel => exact ⟨i + 1, _, _, _, by omega, by go_num, G3.out, N3.out, D3.out, T3.out, H3.out, Y1.out, Y2.out, Y3.out⟩
                        case measure => simp [intOf]; omega
          · have t2 : ((i : Int) < (l2.length : Int)) = False := eq_false (by omega)
            go_wp2_with fail
            refine (awake_any _).mono ?_
            rintro e w2 ⟨rfl, hb2⟩
            go_wp2_with fail
            go_ret
            exact ⟨rfl, hw.trans (hb2.mono hw.size)⟩
        · have t1 : ((i : Int) < (l.length : Int)) = False := eq_false (by omega)
          go_wp2_with fail
          refine (awake_any _).mono ?_
          rintro e w2 ⟨rfl, hb2⟩
          go_wp2_with fail
          go_ret
          exact ⟨rfl, hw.trans (hb2.mono hw.size)⟩
end Go.Proofs.Ytnkfldoejalpkaa.Marks
