/- Texts of this claim, joined by a program of this session (wip/pack.py): BlockBack. -/
import Derived.WalkLawsBesides
import Derived.Test.YtjgbcaemcohmpaaQBlockBack9
import Derived.Test.YtjgbcaemcohmpaaQBlockBack15
-- BlockBack
namespace Go.Proofs.Ytjgbcaemcohmpaa.Block
open Go.RowKit Aid Txt Print Go.Proofs.YtjgbcaemcohmpaaW.PrintWords
theorem build_str (l : List S31) (hl : ∀ x ∈ l, Fit x) (hs : l.length ≤ 9223372036854775806) (A0 : Option Addr) (c0 : Nat) (r : Int) (r0 : -9223372036854775808 ≤ r) (r1 : r ≤ 9223372036854775807) (hc0 : l.length ≤ c0) {s : List UInt8} {e : Nat} (hb : PBlock.build (l.map rowS) r = (s, e)) :
    ∀ (w' : World), Kd.C k31 w' A0 l.length l → Calls Try.prog 12 #[.slice A0 l.length c0, .int .i64 r] w' fun x w'' => x = .returned (.tuple #[.string (B s), .int .i64 (e : Int)]) ∧ Below w'.heap.size w' w'' := fun w' h => by
  have := build_any l hl hs A0 c0 r r0 r1 w' h hc0
  rw [hb] at this
  exact this
theorem build_nil (l : List S31) (hl : ∀ x ∈ l, Fit x) (hs : l.length ≤ 9223372036854775806) (A0 : Option Addr) (c0 : Nat) (r : Int) (r0 : -9223372036854775808 ≤ r) (r1 : r ≤ 9223372036854775807) (hc0 : l.length ≤ c0) {e : Nat} (he : (PBlock.build (l.map rowS) r).2 = e) (h0 : e ≠ 0) :
    ∀ (w' : World), Kd.C k31 w' A0 l.length l → Calls Try.prog 12 #[.slice A0 l.length c0, .int .i64 r] w' fun x w'' => x = .returned (.tuple #[.string (⟨#[]⟩ : ByteArray), .int .i64 (e : Int)]) ∧ Below w'.heap.size w' w'' := fun w' h => by
  have h1 := build_any l hl hs A0 c0 r r0 r1 w' h hc0
  rcases PBlock.build_err (l.map rowS) r with h2 | h2
  · rw [h2] at he; exact absurd he.symm h0
  · rw [h2, he] at h1; exact h1
theorem seek_of {l : List S31} (hl : ∀ x ∈ l, Fit x) {s : List UInt8} {r : Int} (hb : PBlock.build (l.map rowS) r = (s, 0)) (key : ByteArray) (q : Int) (h0 : 0 ≤ q) (w' : World) :
    Calls Try.prog 22 #[.string (B s), .string key, .int .u64 q] w' fun e w'' => ∃ v0_ : Value, e = .returned (.tuple #[v0_, .int .i64 0]) ∧ Kd.R k31 31 w'' w'.heap.size (fun _ => True) v0_ (l.drop (PBlock.place (l.map rowS) (L key) q.toNat)) ∧ Below w'.heap.size w' w'' := by
  have hs6 : s.length ≤ 65536 := (PBlock.build_ok hb).2.2.2.2.2.2
  have h := seek_any (B s) key (by rw [size_B]; omega) q h0 w'
  rw [L_B, PBlock.seek_ok (PBlock.rows_build hb)] at h
  refine h.mono ?_
  rintro e w'' ⟨v0, h1, h2, h3⟩
  refine ⟨v0, h1, ?_, h3⟩
  dsimp only at h2
  rw [List.map_drop, rowB_map l hl] at h2
  exact h2
theorem rows_of_built {l : List S31} (hl : ∀ x ∈ l, Fit x) {s : List UInt8} {r : Int} (hb : PBlock.build (l.map rowS) r = (s, 0)) (w' : World) :
    Calls Try.prog 19 #[.string (B s)] w' fun e w'' => ∃ v0_ : Value, e = .returned (.tuple #[v0_, .int .i64 0]) ∧ Kd.R k31 31 w'' w'.heap.size (fun _ => True) v0_ l ∧ Below w'.heap.size w' w'' := by
  have hs6 : s.length ≤ 65536 := (PBlock.build_ok hb).2.2.2.2.2.2
  have h := rows_any (B s) (by rw [size_B]; omega) w'
  rw [L_B, PBlock.rows_build hb] at h
  dsimp only at h
  rw [rowB_map l hl] at h
  exact h
set_option maxRecDepth 100000 in
set_option maxHeartbeats 4000000 in
/-- too many rows, or a block that is refused -/
theorem back_err (l : List S31) (hl : ∀ x ∈ l, Fit x) (A0 : Option Addr) (c0 : Nat) (r t : Int) (key : ByteArray) (q : Int) (r0 : -9223372036854775808 ≤ r) (r1 : r ≤ 9223372036854775807) (t0 : -9223372036854775808 ≤ t) (t1 : t ≤ 9223372036854775807) (w : World) (hr0 : Kd.C k31 w A0 l.length l) (hc0 : l.length ≤ c0)
    (hne : 1100 < l.length ∨ (PBlock.build (l.map rowS) r).2 ≠ 0 ∨ (PBlock.build (l.map rowS) t).2 ≠ 0) :
    Calls Try.prog 8 #[.slice A0 l.length c0, .int .i64 r, .int .i64 t, .string key, .int .u64 q] w fun e w' => e = .returned (.bool true) ∧ Below w.heap.size w w' := by
  have PA := fun w' => awake_any w'
  have HR := Lib.hid hr0
  have HL := Lib.hid hl
  clear hr0 hl
  by_cases hbig : 1100 < l.length
  · have b1 : decide ((1100 : Int) < (l.length : Int)) = true := decide_eq_true (by omega)
    clear hne
    go_enter Try.func8, Try.ntmps8
    go_wp2_with fail
    refine (PA _).mono ?_
    rintro e w1 ⟨rfl, hb1⟩
    go_wp2_with fail
    go_ret
    exact ⟨rfl, hb1⟩
  have b1 : decide ((1100 : Int) < (l.length : Int)) = false := decide_eq_false (by omega)
  obtain ⟨e1, h1⟩ : ∃ e, (PBlock.build (l.map rowS) r).2 = e := ⟨_, rfl⟩
  obtain ⟨e2, h2⟩ : ∃ e, (PBlock.build (l.map rowS) t).2 = e := ⟨_, rfl⟩
  rw [h1, h2] at hne
  by_cases n1 : e1 = 0
  · subst n1
    have n2 : e2 ≠ 0 := by omega
    have P1 := build_str l HL.out (by omega) A0 c0 r r0 r1 hc0 (s := (PBlock.build (l.map rowS) r).1) (e := 0) (Prod.ext rfl h1)
    have P2 := build_nil l HL.out (by omega) A0 c0 t t0 t1 hc0 h2 n2
    have m2 : ((e2 : Int) != 0) = true := by simp [n2]
    have m3 : ((e2 : Int) == 0) = false := by simp [n2]
    generalize B (PBlock.build (l.map rowS) r).1 = bs at P1
    clear hne h1 h2
    go_enter Try.func8, Try.ntmps8
    go_wp2_with fail
    refine (P1 _ HR.out).mono ?_
    rintro e w1 ⟨rfl, hb1⟩
    go_wp2_with fail
    refine (P2 _ (Kd.C_below HR.out hb1)).mono ?_
    rintro e w2 ⟨rfl, hb2⟩
    have hB := below_then hb1 hb2
    clear hb1 hb2 P1 P2
    go_wp2_with fail
    refine (PA _).mono ?_
    rintro e w3 ⟨rfl, hb3⟩
    go_wp2_with fail
    go_ret
    exact ⟨rfl, below_then hB hb3⟩
  · have P1 := build_nil l HL.out (by omega) A0 c0 r r0 r1 hc0 h1 n1
    have m1 : ((e1 : Int) != 0) = true := by simp [n1]
    have m4 : ((e1 : Int) == 0) = false := by simp [n1]
    by_cases n2 : e2 = 0
    · subst n2
      have P2 := build_str l HL.out (by omega) A0 c0 t t0 t1 hc0 (s := (PBlock.build (l.map rowS) t).1) (e := 0) (Prod.ext rfl h2)
      generalize B (PBlock.build (l.map rowS) t).1 = bs at P2
      clear hne h1 h2
      go_enter Try.func8, Try.ntmps8
      go_wp2_with fail
      refine (P1 _ HR.out).mono ?_
      rintro e w1 ⟨rfl, hb1⟩
      go_wp2_with fail
      refine (P2 _ (Kd.C_below HR.out hb1)).mono ?_
      rintro e w2 ⟨rfl, hb2⟩
      have hB := below_then hb1 hb2
      clear hb1 hb2 P1 P2
      go_wp2_with fail
      refine (PA _).mono ?_
      rintro e w3 ⟨rfl, hb3⟩
      go_wp2_with fail
      go_ret
      exact ⟨rfl, below_then hB hb3⟩
    · have P2 := build_nil l HL.out (by omega) A0 c0 t t0 t1 hc0 h2 n2
      have m2 : ((e2 : Int) != 0) = true := by simp [n2]
      have m3 : ((e2 : Int) == 0) = false := by simp [n2]
      clear hne h1 h2
      go_enter Try.func8, Try.ntmps8
      go_wp2_with fail
      refine (P1 _ HR.out).mono ?_
      rintro e w1 ⟨rfl, hb1⟩
      go_wp2_with fail
      refine (P2 _ (Kd.C_below HR.out hb1)).mono ?_
      rintro e w2 ⟨rfl, hb2⟩
      have hB := below_then hb1 hb2
      clear hb1 hb2 P1 P2
      go_wp2_with fail
      refine (PA _).mono ?_
      rintro e w3 ⟨rfl, hb3⟩
      go_wp2_with fail
      go_ret
      exact ⟨rfl, below_then hB hb3⟩
set_option maxRecDepth 100000 in
set_option maxHeartbeats 8000000 in
theorem back_ok (l : List S31) (hl : ∀ x ∈ l, Fit x) (A0 : Option Addr) (c0 : Nat) (r t : Int) (key : ByteArray) (q : Int) (q0 : 0 ≤ q) (r0 : -9223372036854775808 ≤ r) (r1 : r ≤ 9223372036854775807) (t0 : -9223372036854775808 ≤ t) (t1 : t ≤ 9223372036854775807) (w : World) (hr0 : Kd.C k31 w A0 l.length l) (hc0 : l.length ≤ c0)
    (hsm : l.length ≤ 1100) (h1 : (PBlock.build (l.map rowS) r).2 = 0) (h2 : (PBlock.build (l.map rowS) t).2 = 0) :
    Calls Try.prog 8 #[.slice A0 l.length c0, .int .i64 r, .int .i64 t, .string key, .int .u64 q] w fun e w' => e = .returned (.bool true) ∧ Below w.heap.size w w' := by
  have PA := fun w' => awake_any w'
  have hb1 : PBlock.build (l.map rowS) r = ((PBlock.build (l.map rowS) r).1, 0) := Prod.ext rfl h1
  have hb2 : PBlock.build (l.map rowS) t = ((PBlock.build (l.map rowS) t).1, 0) := Prod.ext rfl h2
  have ho := (PBlock.build_ok hb1).2.2.1
  have P1 := build_str l hl (by omega) A0 c0 r r0 r1 hc0 hb1
  have P2 := build_str l hl (by omega) A0 c0 t t0 t1 hc0 hb2
  have P3 := fun w' => rows_of_built hl hb1 w'
  have P4 := fun w' => seek_of hl hb1 key q q0 w'
  have P5 := fun w' => seek_of hl hb2 key q q0 w'
  have hpl := PBlock.place_le (l.map rowS) (L key) q.toNat
  rw [List.length_map] at hpl
  have HI : ∀ (k : Nat) (hk : k < l.length), PBlock.ahead (rowS l[k]) (L key) q.toNat = true ↔ k < PBlock.place (l.map rowS) (L key) q.toNat := fun k hk => by
    have := PBlock.place_iff ho (L key) q.toNat (i := k) (by rw [List.length_map]; exact hk)
    rw [List.getElem_map] at this
    exact this
  have HI := Lib.hid HI
  have HR := Lib.hid hr0
  have HL := Lib.hid hl
  clear hb1 hb2 ho h1 h2 hr0 hl
  generalize PBlock.place (l.map rowS) (L key) q.toNat = p at P4 P5 hpl HI
  generalize B (PBlock.build (l.map rowS) r).1 = bs at P1 P3 P4
  generalize B (PBlock.build (l.map rowS) t).1 = bt_ at P2 P5
  have b1 : decide ((1100 : Int) < (l.length : Int)) = false := decide_eq_false (by omega)
  have HP3 := Lib.hid P3
  have HP4 := Lib.hid P4
  have HP5 := Lib.hid P5
  clear P3 P4 P5
  have hdl : (l.drop p).length = l.length - p := List.length_drop
  have HDL := Lib.hid hdl
  clear hdl
  go_enter Try.func8, Try.ntmps8
  go_wp2_with fail
  refine (P1 _ HR.out).mono ?_
  rintro e w1 ⟨rfl, g1⟩
  go_wp2_with fail
  refine (P2 _ (Kd.C_below HR.out g1)).mono ?_
  rintro e w2 ⟨rfl, g2⟩
  have B2 := below_then g1 g2
  clear g1 g2 P1 P2
  go_wp2_with fail
  refine (HP3.out _).mono ?_
  rintro e w3 ⟨v3, rfl, R3, g3⟩
  have B3 := below_then B2 g3
  clear g3 HP3
  go_wp2_with fail
  refine (HP4.out _).mono ?_
  rintro e w4 ⟨v4, rfl, R4, g4⟩
  have B4 := below_then B3 g4
  have R3' := Kd.R_below R3 g4
  clear g4 HP4 B3 R3
  go_wp2_with fail
  refine (HP5.out _).mono ?_
  rintro e w5 ⟨v5, rfl, R5, g5⟩
  have B5 := below_then B4 g5
  have R3 := Kd.R_below R3' g5
  have R4' := Kd.R_below R4 g5
  clear g5 HP5 R3' B4 R4
  obtain ⟨A3, c3, rfl, hc3, C3⟩ := Kd.R_reads R3
  obtain ⟨A4, c4, rfl, hc4, C4⟩ := Kd.R_reads R4'
  obtain ⟨A5, c5, rfl, hc5, C5⟩ := Kd.R_reads R5
  rw [HDL.out] at hc4 hc5 ⊢
  clear R3 R4' R5
  have HC4 := Lib.hid C4
  have HC5 := Lib.hid C5
  clear C4 C5
  go_wp2_with fail
  refine (same_any l (by omega) A3 c3 A0 c0 w5 C3 hc3 (Kd.C_below HR.out B5) hc0).mono ?_
  rintro e w6 ⟨rfl, d6⟩
  have g6 := drawn_below d6
  have B6 := below_then B5 g6
  clear d6 C3
  have PM := same_any (l.drop p) (by rw [HDL.out]; omega) A4 c4 A5 c5 w6 (Kd.C_below HC4.out g6) (by rw [HDL.out]; exact hc4) (Kd.C_below HC5.out g6) (by rw [HDL.out]; exact hc5)
  rw [HDL.out] at PM
  go_wp2_with fail
  refine PM.mono ?_
  rintro e w7 ⟨rfl, d7⟩
  have g7 := below_then g6 (drawn_below d7)
  have B7 := below_then B6 (drawn_below d7)
  have C4 := Kd.C_below HC4.out g7
  rw [HDL.out] at C4
  have HC4 := Lib.hid C4
  clear PM d7 g6 B6 B5 g7 C4 HC5
  go_wp2_with fail
  rw [show ((l.length : Int) - ((l.length - p : Nat) : Int)) = (p : Int) by omega]
  go_loopw [22] (fun v22 wr => ∃ k : Nat, v22 = .int .i64 k ∧ k ≤ l.length ∧ Below w7.heap.size w7 wr) (fun v22 _ => l.length - (intOf v22).toNat)
  case atStart => exact ⟨0, rfl, by omega, Below.refl _ _⟩
  case round =>
    obtain ⟨k, rfl, hkl, hB⟩ := hrel
    by_cases hlt : k < l.length
    · have t2 : decide ((k : Int) < (l.length : Int)) = true := decide_eq_true (by omega)
      obtain ⟨ad, rfl, k0, k1, k2, k3⟩ := at_T31 (Kd.C_below HR.out (below_then B7 hB)) (k : Int) (by omega) (by omega)
      rw [at_S31 l k hlt, Int.toNat_natCast] at k0 k1 k2 k3
      have hiff := HI.out k hlt
      have hfit := HL.out l[k] (List.getElem_mem _)
      have i0 : (0 : Int) ≤ (k : Int) := by omega
      have i1 : (k : Int) < (l.length : Int) := by omega
      by_cases hp : k < p
      · have t3 : decide ((p : Int) ≤ (k : Int)) = false := decide_eq_false (by omega)
        have hpk : ¬ p ≤ k := by omega
        have t3n : decide (p ≤ k) = false := decide_eq_false hpk
        have t3m : (p ≤ k) = False := eq_false hpk
        have ha := hiff.2 hp
        clear hiff
        generalize l[k] = x at k0 k1 k2 k3 ha hfit
        obtain ⟨x0, x1, x2, x3⟩ := x
        have hx1 : 0 ≤ x1 := hfit.s0
        rw [PBlock.ahead_iff] at ha
        rcases ha with ha | ⟨ha, hs⟩
        · have l1 : Op.bytesLess x0.toList key.toList = true := by rw [L_toList, L_toList]; exact ha
          have l2 := less_ne1 l1
          have l3 := less_gt x0.toList key.toList
          have l4 := less_anti l1
          clear ha hfit
          go_wp2_with fail
          go_quiet (fail)
          go_wp2_with fail
          go_roundw
          case rel => exact ⟨k + 1, by go_num, by omega, below_drewN hB nq⟩
          case measure => simp [intOf]; omega
        · have hx : x0 = key := L_inj ha
          subst hx
          have l1 := less_refl x0.toList
          have l3 := less_gt x0.toList x0.toList
          have hs' : q.toNat < x1.toNat := hs
          have l5 : decide (x1 ≤ q) = false := decide_eq_false (by omega)
          clear ha hfit hs hs'
          go_wp2_with fail
          go_quiet (fail)
          go_wp2_with fail
          go_roundw
          case rel => exact ⟨k + 1, by go_num, by omega, below_drewN hB nq⟩
          case measure => simp [intOf]; omega
      · have t3 : decide ((p : Int) ≤ (k : Int)) = true := decide_eq_true (by omega)
        have hpk : p ≤ k := by omega
        have t3n : decide (p ≤ k) = true := decide_eq_true hpk
        have t3m : (p ≤ k) = True := eq_true hpk
        have ha : ¬ PBlock.ahead (rowS l[k]) (L key) q.toNat = true := fun h => hp (hiff.1 h)
        clear hiff
        have C4 := Kd.C_below HC4.out hB
        have j0 : (0 : Int) ≤ (k : Int) - (p : Int) := by omega
        have j1 : (k : Int) - (p : Int) < ((l.length - p : Nat) : Int) := by omega
        have j2 : ((k : Int) - (p : Int)).toNat = k - p := by omega
        have j3 : IntKind.i64.wrap ((k : Int) - (p : Int)) = (k : Int) - (p : Int) := IntWalk.i64_in _ (by omega)
        have j4 : k - p < l.length - p := by omega
        obtain ⟨ad4, rfl, m0, m1, m2, m3⟩ := at_T31 C4 ((k - p : Nat) : Int) (by omega) (by omega)
        rw [at_S31 (l.drop p) (k - p) (by rw [HDL.out]; omega), Int.toNat_natCast, List.getElem_drop] at m0 m1 m2 m3
        simp only [show p + (k - p) = k by omega] at m0 m1 m2 m3
        clear C4
        generalize l[k] = x at k0 k1 k2 k3 ha hfit m0 m1 m2 m3
        obtain ⟨x0, x1, x2, x3⟩ := x
        have hx1 : 0 ≤ x1 := hfit.s0
        rw [PBlock.ahead_iff] at ha
        by_cases hxk : x0 = key
        · subst hxk
          have l1 := less_refl x0.toList
          have l3 := less_gt x0.toList x0.toList
          have hs' : ¬ q.toNat < x1.toNat := fun h => ha (.inr ⟨rfl, h⟩)
          have l5 : decide (x1 ≤ q) = true := decide_eq_true (by omega)
          clear ha hfit hs'
          go_wp2_with fail
          go_quiet (fail)
          go_wp2_with fail
          go_roundw
          case rel => exact ⟨k + 1, by go_num, by omega, below_drewN hB nq⟩
          case measure => simp [intOf]; omega
        · have l1 : Op.bytesLess x0.toList key.toList = false := by
            cases h : Op.bytesLess x0.toList key.toList with
            | false => rfl
            | true => exact absurd (.inl (by rw [L_toList, L_toList] at h; exact h)) ha
          have l2 : (x0.toList == key.toList) = false := beq_eq_false_iff_ne.2 (fun e => hxk (L_inj (by rw [← L_toList, ← L_toList, e])))
          have l3 := less_gt x0.toList key.toList
          have l4 : Op.bytesLess key.toList x0.toList = true := (less_or l1).resolve_right (fun e => hxk (L_inj (by rw [← L_toList, ← L_toList, e])))
          clear ha hfit hxk
          go_wp2_with fail
          go_quiet (fail)
          go_wp2_with fail
          go_roundw
          case rel => exact ⟨k + 1, by go_num, by omega, below_drewN hB nq⟩
          case measure => simp [intOf]; omega
    · have t2 : decide ((k : Int) < (l.length : Int)) = false := decide_eq_false (by omega)
      go_wp2_with fail
      refine (PA _).mono ?_
      rintro e w8 ⟨rfl, g8⟩
      go_wp2_with fail
      go_ret
      exact ⟨rfl, below_then (below_then B7 hB) g8⟩
/-- BlockBack answers true -/
theorem back_walk (l : List S31) (hl : ∀ x ∈ l, Fit x) (A0 : Option Addr) (c0 : Nat) (r t : Int) (key : ByteArray) (q : Int) (q0 : 0 ≤ q) (r0 : -9223372036854775808 ≤ r) (r1 : r ≤ 9223372036854775807) (t0 : -9223372036854775808 ≤ t) (t1 : t ≤ 9223372036854775807) (w : World) (hr0 : Kd.C k31 w A0 l.length l) (hc0 : l.length ≤ c0) :
    Calls Try.prog 8 #[.slice A0 l.length c0, .int .i64 r, .int .i64 t, .string key, .int .u64 q] w fun e w' => e = .returned (.bool true) ∧ Below w.heap.size w w' := by
  by_cases h : 1100 < l.length ∨ (PBlock.build (l.map rowS) r).2 ≠ 0 ∨ (PBlock.build (l.map rowS) t).2 ≠ 0
  · exact back_err l hl A0 c0 r t key q r0 r1 t0 t1 w hr0 hc0 h
  · exact back_ok l hl A0 c0 r t key q q0 r0 r1 t0 t1 w hr0 hc0 (by omega) (by omega) (by omega)
end Go.Proofs.Ytjgbcaemcohmpaa.Block
