/- Marks: read out of a text. -/
import Derived.Test.YtnkfldoejalpkaaMarksR
import Derived.Test.YtnkfldoejalpkaaROrd
import Derived.Deep.RegionWith
namespace Go.Proofs.Ytnkfldoejalpkaa.Marks
open Go.RowKit Aid PMarks Txt Print
/-- a source's text -/
def src1 (x : List UInt8) : Src := (PCode.ord x, decide ((x.getD 8 0).toNat = 1))
def ok1 (x : List UInt8) : Bool := decide ((x.getD 8 0).toNat ≤ 1 ∧ -1126999418470401 ≤ PCode.ord x ∧ PCode.ord x ≤ 1125899906842624)
def srcsAt (r : List UInt8) (n : Nat) : List Src := (List.range n).map fun k => src1 (r.drop (8 + 9 * k))
def readAt (r : List UInt8) (n : Nat) (bd : Int) : Option St :=
  if (List.range n).all (fun k => ok1 (r.drop (8 + 9 * k))) = true ∧ -1125899906842624 ≤ PCode.ord r ∧ PCode.ord r ≤ 1125899906842624 ∧ mxo (PCode.ord r) (least (srcsAt r n)) = PCode.ord r then some ⟨bd, srcsAt r n, PCode.ord r⟩ else none
def readW (l : List UInt8) (u v : Nat × Nat × Nat) : Option St :=
  if u.2.2 = 0 ∧ v.2.2 = 0 ∧ u.1 ≤ 16 ∧ v.1 ≤ 1099511627776 ∧ (l.drop (u.2.1 + v.2.1)).length = 8 + 9 * u.1 ∧ 1 ≤ u.1 then readAt (l.drop (u.2.1 + v.2.1)) u.1 v.1 else none
def read (l : List UInt8) : Option St := readW l (PCode.uint l) (PCode.uint (l.drop (PCode.uint l).2.1))
theorem ord_any (s : ByteArray) (h : 8 ≤ s.size) (w : World) : Calls Try.prog 30 #[.string s] w fun e w' => e = .returned (.tuple #[.int .i64 (PCode.ord (L s)), .int .i64 0]) ∧ ∃ n, w' = w.drewN n := by
  obtain ⟨k, hk⟩ := (code_ord s).rounds
  unfold ordZ at hk
  rw [if_neg (by omega)] at hk
  exact (code_Ord.calls k s _ _ w hk).mono fun e w' ⟨h1, h2⟩ => ⟨h1, h2.out⟩
theorem uint_len_ (l : List UInt8) : (PCode.uint l).2.1 ≤ l.length ∧ (PCode.uint l).1 < 18446744073709551616 := by
  rcases PCode.uintAt_err 0 l with h | h | h
  · have := PCode.uint_ok (l := l) (n := (PCode.uint l).1) (s := (PCode.uint l).2.1) (by unfold PCode.uint; exact Prod.ext rfl (Prod.ext rfl h))
    exact ⟨this.2.2.1, this.2.2.2⟩
  · unfold PCode.uint; rw [h]; simp
  · unfold PCode.uint; rw [h]; simp
theorem uint_at (s : ByteArray) (hs : s.size ≤ 9223372036854775806) (u : Nat × Nat × Nat) (hu : PCode.uint (L s) = u) (w : World) :
    Calls Try.prog 29 #[.string s] w fun e w' => e = .returned (.tuple #[.int .u64 (u.1 : Int), .int .i64 (u.2.1 : Int), .int .i64 (u.2.2 : Int)]) ∧ Below w.heap.size w w' := by
  have := CodeW.uint_any s hs w
  rw [hu] at this
  exact this
/-- what a reading hands back -/
def Got (r : Option St) (w : World) (e : Ending) (w' : World) : Prop :=
  match r with
  | none => e = .returned (.tuple #[.pointer none, .int .i64 7]) ∧ Below w.heap.size w w'
  | some st => ∃ b, e = .returned (.tuple #[.pointer (some ⟨b, 0, none⟩), .int .i64 0]) ∧ w.heap.size ≤ b ∧ Held w' b st ∧ Below w.heap.size w w'
theorem got_none {w w' : World} (h : Below w.heap.size w w') : Got none w (.returned (.tuple #[.pointer none, .int .i64 7])) w' := ⟨rfl, h⟩
theorem srcsAt_len (r : List UInt8) (n : Nat) : (srcsAt r n).length = n := by unfold srcsAt; rw [List.length_map, List.length_range]
theorem src_len (r : List UInt8) (n j : Nat) (h : j ≤ n) : ((srcsAt r n).take j ++ List.replicate (n - j) ((-1125899906842624 : Int), false)).length = n := by
  rw [List.length_append, List.length_take, srcsAt_len, List.length_replicate]; omega
theorem set_twice (l : List Src) (j : Nat) (hj : j < l.length) (m : Int) (d c : Bool) : (l.set j (m, d)).set j ((src (l.set j (m, d)) j).1, c) = l.set j (m, c) := by
  rw [src_set _ _ _ _ hj, if_pos rfl, List.set_set]
theorem set_next (r : List UInt8) (n j : Nat) (h : j < n) : ((srcsAt r n).take j ++ List.replicate (n - j) ((-1125899906842624 : Int), false)).set j (src1 (r.drop (8 + 9 * j))) = (srcsAt r n).take (j + 1) ++ List.replicate (n - (j + 1)) ((-1125899906842624 : Int), false) := by
  have hl : ((srcsAt r n).take j).length = j := by rw [List.length_take, srcsAt_len]; omega
  obtain ⟨m, hm⟩ : ∃ m, n - j = m + 1 := ⟨n - j - 1, by omega⟩
  rw [hm, show n - (j + 1) = m by omega, List.set_append, if_neg (by omega), hl, Nat.sub_self, List.replicate_succ, List.set_cons_zero, List.take_succ_eq_append_getElem (by rw [srcsAt_len]; exact h), List.append_assoc]
  congr 2
  unfold srcsAt
  simp
theorem all_more (ok : Nat → Bool) (k : Nat) : (List.range (k + 1)).all ok = ((List.range k).all ok && ok k) := by simp [List.range_succ]
theorem readAt_bad (r : List UInt8) (n : Nat) (bd : Int) (j : Nat) (hj : j < n) (h : ok1 (r.drop (8 + 9 * j)) = false) : readAt r n bd = none :=
  if_neg (fun hh => by
    have := List.all_eq_true.1 hh.1 j (List.mem_range.2 hj)
    rw [h] at this
    cases this)
theorem ok1_lo (x : List UInt8) (h : PCode.ord x < -1126999418470401) : ok1 x = false := decide_eq_false (fun hh => by omega)
theorem ok1_hi (x : List UInt8) (h : 1125899906842624 < PCode.ord x) : ok1 x = false := decide_eq_false (fun hh => by omega)
theorem ok1_big (x : List UInt8) (h : 1 < (x.getD 8 0).toNat) : ok1 x = false := decide_eq_false (fun hh => by omega)
theorem ok1_at (x : List UInt8) (h : (x.getD 8 0).toNat ≤ 1) (h1 : -1126999418470401 ≤ PCode.ord x) (h2 : PCode.ord x ≤ 1125899906842624) : ok1 x = true := decide_eq_true ⟨h, h1, h2⟩
set_option maxRecDepth 100000 in
set_option maxHeartbeats 4000000 in
theorem read_any (s : ByteArray) (hs : s.size ≤ 140737488351232) (w : World) : Calls Try.prog 19 #[.string s] w (Got (read (L s)) w) := by
  obtain ⟨u, hu⟩ : ∃ u, PCode.uint (L s) = u := ⟨_, rfl⟩
  have hul : u.2.1 ≤ s.size ∧ u.1 < 18446744073709551616 := by have := uint_len_ (L s); rw [hu, L_length] at this; exact this
  have hx : L (s.extract u.2.1 s.size) = (L s).drop u.2.1 := L_drop s _
  obtain ⟨v, hv⟩ : ∃ v, PCode.uint (L (s.extract u.2.1 s.size)) = v := ⟨_, rfl⟩
  have hvl : v.2.1 ≤ s.size - u.2.1 ∧ v.1 < 18446744073709551616 := by
    have := uint_len_ (L (s.extract u.2.1 s.size))
    rw [hv, hx, List.length_drop, L_length] at this; exact this
  have hr : read (L s) = readW (L s) u v := by unfold read; rw [hu, ← hx, hv]
  have C1 := Lib.hid fun w => uint_at s (by omega) u hu w
  have C2 := Lib.hid fun w => uint_at (s.extract u.2.1 s.size) (by rw [ByteArray.size_extract]; omega) v hv w
  rw [hr]
  clear hr hu hx hv
  obtain ⟨n, i, e⟩ := u
  obtain ⟨bd, k, f⟩ := v
  obtain ⟨hul, hn⟩ := hul
  obtain ⟨hvl, hbd⟩ := hvl
  simp only at hul hn hvl hbd C1 C2 ⊢
  have i1 : (i : Int) ≤ (s.size : Int) := by omega
  have k1 : (i : Int) + (k : Int) ≤ (s.size : Int) := by omega
  have s1 : (s.size : Int) ≤ 140737488351232 := by omega
  go_enter Try.func19, Try.ntmps19
  go_wp2_with fail
  refine (C1.out _).mono ?_
  rintro _ w1 ⟨rfl, hb1⟩
  go_wp2_with fail
  refine (C2.out _).mono ?_
  rintro _ w2 ⟨rfl, hb2⟩
  have hB2 := hb1.trans (hb2.mono hb1.size)
  clear hb1 hb2
  by_cases c1 : e = 0
  · subst c1
    by_cases c2 : f = 0
    · subst c2
      by_cases c3 : n ≤ 16
      · have n3 : ¬ (n : Int) > 16 := by omega
        by_cases c4 : bd ≤ 1099511627776
        · have n4 : ¬ (bd : Int) > 1099511627776 := by omega
          by_cases c5 : s.size - (i + k) = 8 + 9 * n
          · have n5 : ((((s.size - (i + k) : Nat) : Int)) != 8 + 9 * (n : Int)) = false := by rw [bne_eq_false_iff_eq]; omega
            by_cases c6 : 1 ≤ n
            · have HN := Lib.hid fun w => new_any n (bd : Int) c6 c3 (by omega) (by omega) w
              have hz : readW (L s) (n, i, 0) (bd, k, 0) = readAt ((L s).drop (i + k)) n (bd : Int) := if_pos ⟨rfl, rfl, c3, c4, by show ((L s).drop (i + k)).length = _; rw [List.length_drop, L_length]; exact c5, c6⟩
              have hrs : (s.extract (i + k) s.size).size = 8 + 9 * n := by rw [ByteArray.size_extract]; omega
              have hrl : L (s.extract (i + k) s.size) = (L s).drop (i + k) := L_drop s _
              rw [← hrl] at hz
              have HZ := Lib.hid hz
              have u3 : IntKind.i64.wrap (bd : Int) = (bd : Int) := by rw [IntKind.wrap_i64]; omega
              have u4 : IntKind.i64.wrap (n : Int) = (n : Int) := by rw [IntKind.wrap_i64]; omega
              clear hz hrl
              go_wp2_with fail
              refine (HN.out _).mono ?_
              rintro _ w3 ⟨b, rfl, hb, h3, hb3⟩
              have hbw : w.heap.size ≤ b := Nat.le_trans hB2.size hb
              have hB3 := hB2.trans (hb3.mono hB2.size)
              clear hb hb3 hB2 u3 u4
              generalize s.extract (i + k) s.size = r at hrs HZ ⊢
              have H3 := Lib.hid h3
              have HB3 := Lib.hid hB3
              have m1 := h3.now
              have f1 := h3.free 34 (by omega)
              clear h3 hB3
              go_wp2_with fail
              refine (ord_any r (by omega) _).mono ?_
              rintro _ w4 ⟨rfl, nd, rfl⟩
              have h5 : Held ((w3.drewN nd).setCell ⟨b, 34, none⟩ (.int .i64 (PCode.ord (L r)))) b { mk0 n (bd : Int) with now := PCode.ord (L r) } := (H3.out.of_block (w' := w3.drewN nd) rfl).setNow _
              have hB5 := (below_drewN HB3.out nd).setCell (p := ⟨b, 34, none⟩) hbw (.int .i64 (PCode.ord (L r)))
              have hl5 : (mk0 n (bd : Int)).l.length = n := List.length_replicate
              clear HB3 H3
              go_wp2_with fail
              clear m1 f1
              generalize (w3.drewN nd).setCell ⟨b, 34, none⟩ (.int .i64 (PCode.ord (L r))) = w5 at h5 hB5 ⊢
              have z0 := h5.n
              rw [show (({ mk0 n (bd : Int) with now := PCode.ord (L r) } : St)).l.length = n from hl5] at z0
              have n16 : (n : Int) ≤ 16 := by omega
              have n00 : 0 ≤ (n : Int) := by omega
              have H5 := Lib.hid h5
              have HB5 := Lib.hid hB5
              clear h5 hB5
              go_quiet (fail)
              go_wp2_with fail
              have h6 : Held (w5.drewN nq) b ⟨bd, (srcsAt (L r) n).take 0 ++ List.replicate (n - 0) (-1125899906842624, false), PCode.ord (L r)⟩ := H5.out.of_block rfl
              have hB6 := below_drewN HB5.out nq
              generalize w5.drewN nq = w6 at h6 hB6 ⊢
              have hrl : (L r).length = 8 + 9 * n := by rw [L_length]; exact hrs
              have HRL := Lib.hid hrl
              have hrz : (r.size : Int) = 8 + 9 * (n : Int) := by omega
              have hrz2 : (r.size : Int) ≤ 200 := by omega
              clear z0 H5 HB5 hl5
              go_loopw [84] (fun v84 wr => ∃ j : Nat, j ≤ n ∧ v84 = .int .i64 j ∧ (List.range j).all (fun k => ok1 ((L r).drop (8 + 9 * k))) = true ∧ Held wr b ⟨bd, (srcsAt (L r) n).take j ++ List.replicate (n - j) (-1125899906842624, false), PCode.ord (L r)⟩ ∧ Below w.heap.size w wr) (fun v84 _ => n - (intOf v84).toNat)
              case atStart => exact ⟨0, by omega, rfl, rfl, h6, hB6⟩
              case round =>
                obtain ⟨j, hj, rfl, hall, hH, hw⟩ := hrel
                by_cases hlt : j < n
                · have t1 : ((j : Int) < (n : Int)) = True := eq_true (by omega)
                  have k1 : 8 + 9 * (j : Int) ≤ (r.size : Int) := by omega
                  have hx1 : (r.extract (8 + 9 * j) r.size).size = 9 * (n - j) := by rw [ByteArray.size_extract]; omega
                  have hxl : L (r.extract (8 + 9 * j) r.size) = (L r).drop (8 + 9 * j) := L_drop r _
                  have hx0 : r.extract (8 + 9 * j) r.size = r.extract (8 + 9 * j) (8 + 9 * n) := by rw [hrs]
                  rw [hx0] at hx1 hxl
                  have HA := Lib.hid hall
                  have HH := Lib.hid hH
                  have HW := Lib.hid hw
                  clear hall hH hw hx0
                  go_wp2_with fail
                  generalize r.extract (8 + 9 * j) (8 + 9 * n) = x at hx1 hxl ⊢
                  have x9 : 9 ≤ x.size := by omega
                  have HO := Lib.hid fun w => ord_any x (by omega) w
                  have HX := Lib.hid hxl
                  clear hx1 hxl
                  have mk := HH.out.mark j (by omega)
                  have fk := HH.out.free (2 + j * 2) (by omega)
                  have j16 : (j : Int) < 16 := by omega
                  have j00 : 0 ≤ (j : Int) := by omega
                  go_region_with (go_at_call 30; (with_reducible refine (HO.out _).mono ?_); rintro e w' ⟨rfl, nd2, rfl⟩)
                  go_wp2_with fail
                  have hbu : b < (1 : Nat) + b := by omega
                  have h7 := (HH.out.of_block (w' := wr.drewN (1 + nd2)) rfl).setMark (PCode.ord (L x)) (k := j) (by rw [src_len _ _ _ (by omega)]; exact hlt)
                  have hB7 := (below_drewN HW.out (1 + nd2)).setCell (p := ⟨b, 2 + j * 2, none⟩) hbw (.int .i64 (PCode.ord (L x)))
                  generalize (wr.drewN (1 + nd2)).setCell ⟨b, 2 + j * 2, none⟩ (.int .i64 (PCode.ord (L x))) = w7 at h7 hB7 ⊢
                  have ik := h7.idle j (by omega)
                  have fk2 := h7.free (2 + j * 2 + 1) (by omega)
                  have mk7 : w7.cell? ⟨b, 2 + j * 2, none⟩ = some (.int .i64 (PCode.ord (L x))) := by
                    rw [h7.mark j (by omega)]
                    show some (Value.int .i64 (src (List.set _ j _) j).1) = _
                    rw [src_set _ _ _ _ (by rw [src_len _ _ _ (by omega)]; exact hlt), if_pos rfl]
                  have H7 := Lib.hid h7
                  have HB7 := Lib.hid hB7
                  have x8 : (x[8]'(by omega)).toNat = ((L x).getD 8 0).toNat := by rw [List.getD_eq_getElem?_getD, List.getElem?_eq_getElem (by rw [L_length]; omega)]; rfl
                  have X8 := Lib.hid x8
                  have c256 := (x[8]'(by omega)).toNat_lt
                  have i8 : (8 : Int) < (x.size : Int) := by omega
                  clear mk fk x8 h7 hB7 hbu
                  by_cases c8 : (x[8]'(by omega)).toNat = 1
                  · have e8 : (((x[8]'(by omega)).toNat : Int) == 1) = true := by rw [beq_iff_eq]; omega
                    have HC := Lib.hid c8
                    have c9 : ((x[8]'(by omega)).toNat : Int) ≤ 1 := by omega
                    clear c8
                    by_cases m1 : PCode.ord (L x) < -1126999418470401
                    · have HF := Lib.hid (readAt_bad (L r) n (bd : Int) j hlt (by rw [← HX.out]; exact ok1_lo _ (by omega)))
                      go_region
                      go_wp2_with fail
                      go_ret2
                      rw [HZ.out, HF.out]
                      exact got_none (by first | exact (HB7.out.setCell (p := ⟨b, 2 + j * 2 + 1, none⟩) hbw _).drew | exact HB7.out.drew.setCell (p := ⟨b, 2 + j * 2 + 1, none⟩) hbw _)
                    · by_cases m2 : 1125899906842624 < PCode.ord (L x)
                      · have HF := Lib.hid (readAt_bad (L r) n (bd : Int) j hlt (by rw [← HX.out]; exact ok1_hi _ (by omega)))
                        go_region
                        go_wp2_with fail
                        go_ret2
                        rw [HZ.out, HF.out]
                        exact got_none (by first | exact (HB7.out.setCell (p := ⟨b, 2 + j * 2 + 1, none⟩) hbw _).drew | exact HB7.out.drew.setCell (p := ⟨b, 2 + j * 2 + 1, none⟩) hbw _)
                      · have h8 := H7.out.setIdle true (k := j) (by show j < (List.set _ j _).length; rw [List.length_set, src_len _ _ _ (by omega)]; exact hlt)
                        dsimp only at h8
                        rw [set_twice _ _ (by rw [src_len _ _ _ (by omega)]; exact hlt), show (PCode.ord (L x), true) = src1 ((L r).drop (8 + 9 * j)) by rw [← HX.out]; unfold src1; rw [← X8.out]; rw [HC.out]; rfl, set_next (L r) n j hlt] at h8
                        have H8 := Lib.hid h8
                        have HA8 := Lib.hid (show (List.range (j + 1)).all (fun k => ok1 ((L r).drop (8 + 9 * k))) = true by rw [all_more, HA.out, ← HX.out, ok1_at (L x) (by rw [← X8.out]; omega) (by omega) (by omega)]; rfl)
                        clear h8
                        go_region
                        go_wp2_with fail
                        go_roundw
                        case rel => exact ⟨j + 1, by omega, by go_num, HA8.out, by first | exact H8.out | exact H8.out.of_block rfl, by first | exact (HB7.out.setCell (p := ⟨b, 2 + j * 2 + 1, none⟩) hbw _).drew | exact HB7.out.drew.setCell (p := ⟨b, 2 + j * 2 + 1, none⟩) hbw _⟩
                        case measure => simp [intOf]; omega
                  · have e8 : (((x[8]'(by omega)).toNat : Int) == 1) = false := by rw [beq_eq_false_iff_ne]; omega
                    by_cases c9 : ((x[8]'(by omega)).toNat : Int) ≤ 1
                    · have HC := Lib.hid (show (x[8]'(by omega)).toNat = 0 by omega)
                      clear c8
                      by_cases m1 : PCode.ord (L x) < -1126999418470401
                      · have HF := Lib.hid (readAt_bad (L r) n (bd : Int) j hlt (by rw [← HX.out]; exact ok1_lo _ (by omega)))
                        go_region
                        go_wp2_with fail
                        go_ret2
                        rw [HZ.out, HF.out]
                        exact got_none (by first | exact (HB7.out.setCell (p := ⟨b, 2 + j * 2 + 1, none⟩) hbw _).drew | exact HB7.out.drew.setCell (p := ⟨b, 2 + j * 2 + 1, none⟩) hbw _)
                      · by_cases m2 : 1125899906842624 < PCode.ord (L x)
                        · have HF := Lib.hid (readAt_bad (L r) n (bd : Int) j hlt (by rw [← HX.out]; exact ok1_hi _ (by omega)))
                          go_region
                          go_wp2_with fail
                          go_ret2
                          rw [HZ.out, HF.out]
                          exact got_none (by first | exact (HB7.out.setCell (p := ⟨b, 2 + j * 2 + 1, none⟩) hbw _).drew | exact HB7.out.drew.setCell (p := ⟨b, 2 + j * 2 + 1, none⟩) hbw _)
                        · have h8 := H7.out.setIdle false (k := j) (by show j < (List.set _ j _).length; rw [List.length_set, src_len _ _ _ (by omega)]; exact hlt)
                          dsimp only at h8
                          rw [set_twice _ _ (by rw [src_len _ _ _ (by omega)]; exact hlt), show (PCode.ord (L x), false) = src1 ((L r).drop (8 + 9 * j)) by rw [← HX.out]; unfold src1; rw [← X8.out]; rw [HC.out]; rfl, set_next (L r) n j hlt] at h8
                          have H8 := Lib.hid h8
                          have HA8 := Lib.hid (show (List.range (j + 1)).all (fun k => ok1 ((L r).drop (8 + 9 * k))) = true by rw [all_more, HA.out, ← HX.out, ok1_at (L x) (by rw [← X8.out]; omega) (by omega) (by omega)]; rfl)
                          clear h8
                          go_region
                          go_wp2_with fail
                          go_roundw
                          case rel => exact ⟨j + 1, by omega, by go_num, HA8.out, by first | exact H8.out | exact H8.out.of_block rfl, by first | exact (HB7.out.setCell (p := ⟨b, 2 + j * 2 + 1, none⟩) hbw _).drew | exact HB7.out.drew.setCell (p := ⟨b, 2 + j * 2 + 1, none⟩) hbw _⟩
                          case measure => simp [intOf]; omega
                    · have c10 : ((x[8]'(by omega)).toNat : Int) > 1 := by omega
                      clear c8 c9
                      have HF := Lib.hid (readAt_bad (L r) n (bd : Int) j hlt (by rw [← HX.out]; exact ok1_big _ (by rw [← X8.out]; omega)))
                      go_region
                      go_wp2_with fail
                      go_ret2
                      rw [HZ.out, HF.out]
                      exact got_none (by first | exact (HB7.out.setCell (p := ⟨b, 2 + j * 2 + 1, none⟩) hbw _).drew | exact HB7.out.drew.setCell (p := ⟨b, 2 + j * 2 + 1, none⟩) hbw _)
                · have t1 : ((j : Int) < (n : Int)) = False := eq_false (by omega)
                  obtain rfl : j = n := by omega
                  rw [List.take_of_length_le (by rw [srcsAt_len]; omega), Nat.sub_self, List.replicate_zero, List.append_nil] at hH
                  have HH := Lib.hid hH
                  have HW := Lib.hid hw
                  have HA := Lib.hid hall
                  have HLs := Lib.hid (least_any b _ wr hH)
                  clear hH hw hall
                  go_wp2_with fail
                  refine (HLs.out).mono ?_
                  rintro _ w8 ⟨rfl, hb8⟩
                  have H8 := Lib.hid (HH.out.below hb8 HH.out.lt)
                  have HB8 := Lib.hid (HW.out.trans (hb8.mono HW.out.size))
                  have nw8 := H8.out.now
                  clear hb8 HLs
                  dsimp only
                  dsimp only at nw8
                  by_cases m1 : PCode.ord (L r) < -1125899906842624
                  · have HF := Lib.hid (show readAt (L r) j (bd : Int) = none from if_neg (fun h => by omega))
                    go_wp2_with fail
                    go_ret2
                    rw [HZ.out, HF.out]
                    exact got_none HB8.out
                  · by_cases m2 : 1125899906842624 < PCode.ord (L r)
                    · have HF := Lib.hid (show readAt (L r) j (bd : Int) = none from if_neg (fun h => by omega))
                      go_wp2_with fail
                      go_ret2
                      rw [HZ.out, HF.out]
                      exact got_none HB8.out
                    · cases ho : least (srcsAt (L r) j) with
                      | none =>
                        have HF := Lib.hid (show readAt (L r) j (bd : Int) = some ⟨bd, srcsAt (L r) j, PCode.ord (L r)⟩ from if_pos ⟨HA.out, by omega, by omega, by rw [ho]; rfl⟩)
                        clear ho
                        go_wp2_with fail
                        go_ret2
                        rw [HZ.out, HF.out]
                        exact ⟨b, rfl, hbw, H8.out, HB8.out⟩
                      | some y =>
                        by_cases m3 : PCode.ord (L r) < y
                        · have HF := Lib.hid (show readAt (L r) j (bd : Int) = none from if_neg (fun h => by have := h.2.2.2; rw [ho] at this; simp only [mxo] at this; rw [if_pos m3] at this; omega))
                          clear ho
                          go_wp2_with fail
                          go_ret2
                          rw [HZ.out, HF.out]
                          exact got_none HB8.out
                        · have HF := Lib.hid (show readAt (L r) j (bd : Int) = some ⟨bd, srcsAt (L r) j, PCode.ord (L r)⟩ from if_pos ⟨HA.out, by omega, by omega, by rw [ho]; simp only [mxo]; rw [if_neg m3]⟩)
                          clear ho
                          go_wp2_with fail
                          go_ret2
                          rw [HZ.out, HF.out]
                          exact ⟨b, rfl, hbw, H8.out, HB8.out⟩
            · obtain rfl : n = 0 := by omega
              have HN := Lib.hid fun w => new_bad 0 (bd : Int) (decide_eq_false (by omega)) w
              have hz : readW (L s) (0, i, 0) (bd, k, 0) = none := if_neg (by simp)
              have HZ := Lib.hid hz
              clear hz
              go_wp2_with fail
              refine (HN.out _).mono ?_
              rintro _ w3 ⟨rfl, rfl⟩
              go_wp2_with fail
              go_ret2
              rw [HZ.out]
              exact got_none hB2
          · have hz : readW (L s) (n, i, 0) (bd, k, 0) = none := if_neg (fun h => c5 (by have := h.2.2.2.2.1; rw [List.length_drop, L_length] at this; exact this))
            have HZ := Lib.hid hz
            have n5 : ((((s.size - (i + k) : Nat) : Int)) != 8 + 9 * (n : Int)) = true := by rw [bne_iff_ne]; omega
            clear hz
            go_wp2_with fail
            go_ret2
            rw [HZ.out]
            exact got_none hB2
        · have hz : readW (L s) (n, i, 0) (bd, k, 0) = none := if_neg (fun h => c4 h.2.2.2.1)
          have HZ := Lib.hid hz
          have n4 : (bd : Int) > 1099511627776 := by omega
          clear hz
          go_wp2_with fail
          go_ret2
          rw [HZ.out]
          exact got_none hB2
      · have hz : readW (L s) (n, i, 0) (bd, k, 0) = none := if_neg (fun h => c3 h.2.2.1)
        have HZ := Lib.hid hz
        have n3 : (n : Int) > 16 := by omega
        clear hz
        go_wp2_with fail
        go_ret2
        rw [HZ.out]
        exact got_none hB2
    · have hz : readW (L s) (n, i, 0) (bd, k, f) = none := if_neg (fun h => c2 h.2.1)
      have HZ := Lib.hid hz
      have n2 : ((f : Int) != 0) = true := by rw [bne_iff_ne]; omega
      clear hz
      go_wp2_with fail
      go_ret2
      rw [HZ.out]
      exact got_none hB2
  · have hz : readW (L s) (n, i, e) (bd, k, f) = none := if_neg (fun h => c1 h.1)
    have HZ := Lib.hid hz
    have n1 : ((e : Int) != 0) = true := by rw [bne_iff_ne]; omega
    clear hz
    go_wp2_with fail
    go_ret2
    rw [HZ.out]
    exact got_none hB2
end Go.Proofs.Ytnkfldoejalpkaa.Marks
