/- Marks: as a text. -/
import Derived.Test.YtnkfldoejalpkaaMarksA
import Derived.Test.YtnkfldoejalpkaaRCode
import Derived.Test.YtnkfldoejalpkaaCodeO
import Derived.Deep.RegionHeld3
namespace Go.Proofs.Ytnkfldoejalpkaa.Marks
open Go.RowKit Aid PMarks Txt Print
theorem B_append (a b : List UInt8) : B a ++ B b = B (a ++ b) := by
  apply L_inj
  rw [L_append]
theorem putUint_any (x : Int) (h0 : 0 ≤ x) (h1 : x < 18446744073709551616) (w : World) : Calls Try.prog 27 #[.int .u64 x] w fun e w' => e = .returned (.string (B (PCode.putUint x.toNat))) ∧ Below w.heap.size w w' := by
  obtain ⟨n, rfl⟩ := Int.eq_ofNat_of_zero_le h0
  obtain ⟨k, hk⟩ := (code_put n (by omega)).rounds
  exact code_PutUint.calls k (n : Int) _ w hk
/-- a call that makes memory leaves marks alone -/
theorem kept_ {f : FuncId} {args : Array Value} {v : Value} {w : World} (b : Nat) (s : St) (h : Held w b s) (hc : Calls Try.prog f args w fun e w' => e = .returned v ∧ Below w.heap.size w w') (n0 : Nat) (w0 : World) (hb : Below n0 w0 w) (hn : n0 ≤ w.heap.size) :
    Calls Try.prog f args w fun e w' => e = .returned v ∧ Held w' b s ∧ Below n0 w0 w' ∧ n0 ≤ w'.heap.size :=
  hc.mono fun _ _ ⟨he, hb1⟩ => ⟨he, h.below hb1 h.lt, hb.trans (hb1.mono hn), Nat.le_trans hn hb1.size⟩
/-- the text of a source -/
def one (x : Src) : List UInt8 := PCode.putOrd x.1 ++ [if x.2 then 1 else 0]
def ones (l : List Src) : List UInt8 := l.flatMap one
def head (s : St) : List UInt8 := PCode.putUint s.l.length ++ PCode.putUint s.bound.toNat ++ PCode.putOrd s.now
def text (s : St) : List UInt8 := head s ++ ones s.l
/-- times that are no wider than a word -/
def Word (x : Int) : Prop := -9223372036854775808 ≤ x ∧ x ≤ 9223372036854775807
theorem head_le (s : St) (h : (s.l.length : Int) ≤ 16) (b0 : 0 ≤ s.bound) (b1 : s.bound ≤ 1099511627776) : (head s).length ≤ 28 := by
  unfold head
  have z1 := PCode.putUint_length_ten (n := s.l.length) (by omega)
  have z2 := PCode.putUint_length_ten (n := s.bound.toNat) (by omega)
  rw [List.length_append, List.length_append, PCode.putOrd_length]
  omega
theorem ones_le (l : List Src) : (ones l).length = 9 * l.length := by
  induction l with
  | nil => rfl
  | cons x l ih =>
    unfold ones at ih ⊢
    rw [List.flatMap_cons, List.length_append, ih]
    unfold one
    rw [List.length_append, PCode.putOrd_length]
    simp; omega
theorem text_any (b : Nat) (s : St) (hg : Good s) (hw : Word s.now) (hl : ∀ x ∈ s.l, Word x.1) (w : World) (h : Held w b s) : Calls Try.prog 18 #[.pointer (some ⟨b, 0, none⟩)] w fun e w' => e = .returned (.tuple #[.string (B (text s)), .int .i64 0]) ∧ Below w.heap.size w w' := by
  have hA : asked s 0 0 = true := (asked_iff s 0 0).2 (by have := hg.one; unfold PMarks.T; omega)
  have HA := asked_good b s 0 0 w h hg
  rw [hA] at HA
  replace HA := Lib.hid HA
  have l0 : 0 ≤ (s.l.length : Int) := by omega
  have l1 : (s.l.length : Int) ≤ 16 := by have := h.le; omega
  have b0 := hg.lo
  have b1 := hg.hi
  have n0 := h.n
  have n1 := h.bound
  have n2 := h.now
  have HG := Lib.hid hg
  have HW := Lib.hid hw
  have HL := Lib.hid hl
  clear hg hA hw hl
  go_enter Try.func18, Try.ntmps18
  go_wp2_with fail
  refine (HA.out).mono ?_
  rintro e w' ⟨rfl, rfl⟩
  go_wp2_with fail
  have u1 : IntKind.u64.wrap (s.l.length : Int) = (s.l.length : Int) := wrap_u64_id (by omega) (by omega)
  have u2 : IntKind.u64.wrap s.bound = s.bound := wrap_u64_id (by omega) (by omega)
  have P1 := fun w' => putUint_any (s.l.length : Int) (by omega) (by omega) w'
  have P2 := fun w' => putUint_any s.bound (by omega) (by omega) w'
  have P3 := fun w' => CodeW.putOrd_any s.now HW.out.1 HW.out.2 w'
  have z1 : (B (PCode.putUint (s.l.length : Int).toNat)).size ≤ 10 := by rw [size_B]; exact PCode.putUint_length_ten (by omega)
  have z2 : (B (PCode.putUint s.bound.toNat)).size ≤ 10 := by rw [size_B]; exact PCode.putUint_length_ten (by omega)
  have z3 : (B (PCode.putOrd s.now)).size ≤ 10 := by rw [size_B, PCode.putOrd_length]; omega
  have hh : B (PCode.putUint (s.l.length : Int).toNat) ++ B (PCode.putUint s.bound.toNat) ++ B (PCode.putOrd s.now) = B (head s) := by
    unfold head
    rw [Int.toNat_natCast, B_append, B_append]
  change ∀ w', Calls _ _ _ w' fun e w'' => e = Ending.returned (Value.string (B (PCode.putOrd s.now))) ∧ _ at P3
  generalize B (PCode.putUint (s.l.length : Int).toNat) = x1 at P1 z1 hh
  generalize B (PCode.putUint s.bound.toNat) = x2 at P2 z2 hh
  generalize B (PCode.putOrd s.now) = x3 at P3 z3 hh
  have y1 : (9223372036854775807 < x1.size + x2.size) = False := eq_false (by omega)
  have y2 : (9223372036854775807 < x1.size + x2.size + x3.size) = False := eq_false (by omega)
  have HP1 := Lib.hid P1
  have HP2 := Lib.hid P2
  have HP3 := Lib.hid P3
  have HX := Lib.hid hh
  clear P1 P2 P3 hh
  go_region_held3 (fun w' => w'.cell? ⟨b, 0, none⟩ = some (.int .i64 (s.l.length : Int)) ∧ w'.cell? ⟨b, 1, none⟩ = some (.int .i64 s.bound) ∧ w'.cell? ⟨b, 34, none⟩ = some (.int .i64 s.now)) (first | exact ⟨Held.n (by assumption), Held.bound (by assumption), Held.now (by assumption)⟩ | go_keep)
    (first
      | (go_at_call 27; (with_reducible refine (kept_ b s ?_ (HP1.out _) w.heap.size w ?_ ?_).mono ?_); (first | assumption | exact Held.of_block h rfl); (first | assumption | exact (Below.refl _ _).drew); (first | assumption | exact Nat.le_refl _); rintro e w' ⟨rfl, hH, hB, hN⟩)
      | (go_at_call 27; (with_reducible refine (kept_ b s ?_ (HP2.out _) w.heap.size w ?_ ?_).mono ?_); (first | assumption | exact Held.of_block h rfl); (first | assumption | exact (Below.refl _ _).drew); (first | assumption | exact Nat.le_refl _); rintro e w' ⟨rfl, hH, hB, hN⟩)
      | (go_at_call 28; (with_reducible refine (kept_ b s ?_ (HP3.out _) w.heap.size w ?_ ?_).mono ?_); (first | assumption | exact Held.of_block h rfl); (first | assumption | exact (Below.refl _ _).drew); (first | assumption | exact Nat.le_refl _); rintro e w' ⟨rfl, hH, hB, hN⟩))
  rw [HX.out]
  rename_i wh
  have m0 := hH.n
  have m1 := hH.now
  clear n0 n1 n2 u1 u2 z1 z2 z3 y1 y2 HP1 HP2 HP3 HX
  have HH := Lib.hid hH
  have HB := Lib.hid hB
  have hlt := h.lt
  have hbw : b < w.heap.size := hlt
  clear h hH hB
  go_wp2_with fail
  go_quiet (fail)
  go_wp2_with fail
  have hw1 : Below w.heap.size w (w'.drewN nq) := below_drewN HB.out nq
  have hh1 : Held (w'.drewN nq) b s := HH.out.of_block rfl
  generalize w'.drewN nq = W1 at hw1 hh1 ⊢
  have lhead := head_le s (by omega) b0 b1
  obtain ⟨l, hl⟩ : ∃ l, l = s.l := ⟨_, rfl⟩
  have HQ : text s = head s ++ ones l := by unfold text; rw [hl]
  replace HQ := Lib.hid HQ
  replace HL : ∀ x ∈ l, Word x.1 := by rw [hl]; exact HL.out
  replace HL := Lib.hid HL
  rw [← hl] at l0 l1 ⊢
  have HE := Lib.hid hl
  clear hl m0 m1 HH HB
  generalize head s = hd at lhead HQ ⊢
  go_loopw [5, 41] (fun v5 v41 wr => ∃ i : Nat, i ≤ l.length ∧ v5 = .string (B (hd ++ ones (l.take i))) ∧ v41 = .int .i64 i ∧ Held wr b s ∧ Below w.heap.size w wr) (fun _ v41 _ => l.length - (intOf v41).toNat)
  case atStart => exact ⟨0, by omega, by simp [ones], rfl, hh1, hw1⟩
  case round =>
    obtain ⟨i, hi, rfl, rfl, hH, hb⟩ := hrel
    by_cases hlt2 : i < l.length
    · have t1 : ((i : Int) < (l.length : Int)) = True := eq_true (by omega)
      have hm := hH.mark i (by omega)
      have hd2 := hH.idle i (by omega)
      have hs : src s.l i = l.getD i (0, false) := by rw [← HE.out]; exact src_at l i hlt2
      have hg : l.getD i (0, false) = l[i] := by rw [List.getD_eq_getElem?_getD, List.getElem?_eq_getElem hlt2]; rfl
      rw [hs, hg] at hm hd2
      have hword := HL.out l[i] (List.getElem_mem hlt2)
      have hon : ones (l.take (i + 1)) = ones (l.take i) ++ (PCode.putOrd l[i].1 ++ [if l[i].2 then 1 else 0]) := by
        unfold ones
        rw [List.take_succ_eq_append_getElem hlt2, List.flatMap_append]
        simp [one]
      have hol := ones_le (l.take i)
      have hol2 : (l.take i).length ≤ i := List.length_take_le _ _
      clear hs hg
      generalize l[i].1 = m at hm hword hon
      generalize l[i].2 = d at hd2 hon
      have P3 := fun w' => CodeW.putOrd_any m hword.1 hword.2 w'
      change ∀ w', Calls _ _ _ w' fun e w'' => e = Ending.returned (Value.string (B (PCode.putOrd m))) ∧ _ at P3
      have hx : B (hd ++ ones (l.take (i + 1))) = B (hd ++ ones (l.take i)) ++ B (PCode.putOrd m) ++ B [if d then 1 else 0] := by
        rw [hon, B_append, B_append]
        simp only [List.append_assoc]
      have z1 : (B (hd ++ ones (l.take i))).size ≤ 200 := by rw [size_B, List.length_append]; omega
      have z3 : (B (PCode.putOrd m)).size ≤ 10 := by rw [size_B, PCode.putOrd_length]; omega
      generalize B (hd ++ ones (l.take i)) = x1 at z1 hx
      generalize B (PCode.putOrd m) = x3 at P3 z3 hx
      have HX := Lib.hid hx
      have HP := Lib.hid P3
      have HH := Lib.hid hH
      have HB := Lib.hid hb
      clear hx P3 hon hol hol2 hword hH hb
      generalize hW : wr.alloc (.cells #[.int .i64 m, .bool d] 42) = W2
      have B2 : Blk W2 wr.heap.size 42 #[.int .i64 m, .bool d] := by rw [← hW]; exact Blk.new _ _ _
      have q0 := (B2.cell 0).trans rfl
      have hlt3 := B2.lt
      have hh2 : Held W2 b s := by rw [← hW]; exact HH.out.below ((Below.refl _ _).alloc (Nat.le_refl _) _) HH.out.lt
      have hb2 : Below w.heap.size w W2 := by rw [← hW]; exact HB.out.alloc HB.out.size _
      have HH2 := Lib.hid hh2
      have HB2 := Lib.hid hb2
      have HK := Lib.hid B2
      clear hh2 hb2 B2
      go_wp2_with fail
      refine (HP.out _).mono ?_
      rintro e w3 ⟨rfl, hb3⟩
      have q1 := ((HK.out.below hb3 hlt3).cell 1).trans rfl
      have HH3 := Lib.hid (HH2.out.below hb3 HH2.out.lt)
      have HB3 := Lib.hid (HB2.out.trans (hb3.mono HB2.out.size))
      clear hb3
      cases d with
      | true =>
        go_wp2_with fail
        go_roundw
        case rel => exact ⟨i + 1, by omega, by rw [HX.out]; rfl, by go_num, HH3.out, HB3.out⟩
        case measure => simp [intOf]; omega
      | false =>
        go_wp2_with fail
        go_roundw
        case rel => exact ⟨i + 1, by omega, by rw [HX.out]; rfl, by go_num, HH3.out, HB3.out⟩
        case measure => simp [intOf]; omega
    · have t1 : ((i : Int) < (l.length : Int)) = False := eq_false (by omega)
      obtain rfl : i = l.length := by omega
      rw [List.take_length]
      go_wp2_with fail
      go_ret2
      exact ⟨by rw [HQ.out]; rfl, hb⟩
end Go.Proofs.Ytnkfldoejalpkaa.Marks
