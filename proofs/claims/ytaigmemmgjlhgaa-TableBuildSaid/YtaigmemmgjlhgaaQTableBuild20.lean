/- Texts of this claim, joined by a program of this session (wip/pack.py): BlockE, GBlockB, Print8, Print9, RFrame, RParts. -/
import Derived.Deep.RegionHeld3
import Derived.StillTailTactics
import Derived.Laws.BitsAllLaws
import Derived.Test.YtaigmemmgjlhgaaQTableBuild4
import Derived.Test.YtaigmemmgjlhgaaQTableBuild6
import Derived.Test.YtaigmemmgjlhgaaQTableBuild8
import Derived.Test.YtaigmemmgjlhgaaQTableBuild9
import Derived.Test.YtaigmemmgjlhgaaQTableBuild12
import Derived.Test.YtaigmemmgjlhgaaQTableBuild14
import Derived.Test.YtaigmemmgjlhgaaQTableBuild15
import Derived.Test.YtaigmemmgjlhgaaQTableBuild18
import Derived.Test.YtaigmemmgjlhgaaQTableBuild19
theorem qa20 {α : Type _} (l : List α) (i : Nat) (x : α) : l.toArray.setIfInBounds i x = (l.set i x).toArray := by simp
theorem qb20 {α : Type _} (l : List α) (x y : α) : (x :: l).set 0 y = y :: l := rfl
theorem qc20 {α : Type _} (l : List α) (n : Nat) (x y : α) : (x :: l).set (n + 1) y = x :: l.set n y := rfl
-- BlockE
namespace Go.Proofs.Ytaigmemmgjlhgaa.Block
open Go.RowKit Aid Txt Print Go.Proofs.YtaigmemmgjlhgaaW.PrintWords
set_option maxRecDepth 100000 in
set_option maxHeartbeats 8000000 in
theorem build_any (l : List S28) (hl : ∀ x ∈ l, Fit x) (hs : l.length ≤ 9223372036854775806) (A0 : Option Addr) (c0 : Nat) (restart : Int) (r0 : -9223372036854775808 ≤ restart) (r1 : restart ≤ 9223372036854775807) (w : World) (hr0 : Kd.C k28 w A0 l.length l) (hc0 : l.length ≤ c0) :
  Calls Try.prog 38 #[.slice A0 l.length c0, .int .i64 restart] w fun e w' => e = .returned (.tuple #[.string (B (PBlock.build (l.map rowS) restart).1), .int .i64 ((PBlock.build (l.map rowS) restart).2 : Nat)]) ∧ Below w.heap.size w w' := by
 have HL := Lib.hid hl
 have HR := Lib.hid hr0
 clear hl hr0
 by_cases hbig : (1024 : Int) < (l.length : Int)
 ·have t0 : decide ((1024 : Int) < (l.length : Int)) = true := decide_eq_true hbig
  go_enter Try.func38, Try.ntmps38
  go_wp2_with fail
  go_loopw [6, 21] (fun v6 v21 wr => ∃ i : Nat, i ≤ l.length ∧ v6 = .int .i64 3 ∧ v21 = .int .i64 i ∧ (∀ x ∈ l.take i, PBlock.check (rowS x) ≠ 2) ∧ Below w.heap.size w wr) (fun _ v21 _ => l.length - (intOf v21).toNat)
  case atStart => exact ⟨0, by omega, rfl, rfl, by simp, Below.refl _ _⟩
  case round =>
   obtain ⟨i, hi, rfl, rfl, hall, hB⟩ := hrel
   by_cases hlt : i < l.length
   ·have t1 : decide ((i : Int) < (l.length : Int)) = true := decide_eq_true (by omega)
    obtain ⟨ad, rfl, k0, k1, k2, k3⟩ := q15 (Kd.C_below HR.out hB) (i : Int) (by omega) (by omega)
    rw [q1h l i hlt, Int.toNat_natCast] at k0 k1 k2 k3
    go_wp2_with fail
    refine (check_any l[i] (HL.out _ (List.getElem_mem _)) _).mono ?_
    rintro e w2 ⟨rfl, hb⟩
    have hB2 : Below w.heap.size w w2 := q0d (hB.alloc hB.size _) hb
    rcases q1l (rowS l[i]) with hc | hc | hc
    ·rw [hc]
     go_wp2_with fail
     go_roundw
     case rel => exact ⟨i + 1, by omega, rfl, by go_num, by rw [List.take_succ_eq_append_getElem hlt]; intro x hx; rcases List.mem_append.1 hx with hx | hx; exact hall x hx; rw [List.mem_singleton.1 hx, hc]; omega, hB2⟩
     case measure => simp [intOf]; omega
    ·rw [hc]
     go_wp2_with fail
     go_ret2
     rw [q1z (.inr (.inr (.inr ⟨rowS l[i], List.mem_map_of_mem (List.getElem_mem _), hc⟩)))]
     exact ⟨rfl, hB2⟩
    ·rw [hc]
     go_wp2_with fail
     go_roundw
     case rel => exact ⟨i + 1, by omega, rfl, by go_num, by rw [List.take_succ_eq_append_getElem hlt]; intro x hx; rcases List.mem_append.1 hx with hx | hx; exact hall x hx; rw [List.mem_singleton.1 hx, hc]; omega, hB2⟩
     case measure => simp [intOf]; omega
   ·have t1 : decide ((i : Int) < (l.length : Int)) = false := decide_eq_false (by omega)
    obtain rfl : i = l.length := by omega
    rw [List.take_length] at hall
    have hno : ¬ ∃ r ∈ l.map rowS, PBlock.check r = 2 := by
     rintro ⟨r, hr, e⟩
     obtain ⟨x, hx, rfl⟩ := List.mem_map.1 hr
     exact hall x hx e
    by_cases ca : restart < 1
    ·have ta : decide (restart < 1) = true := decide_eq_true ca
     go_wp2_with fail
     go_ret2
     rw [q1z (.inl ca)]
     exact ⟨rfl, hB⟩
    ·have ta : decide (restart < 1) = false := decide_eq_false ca
     by_cases cb : 64 < restart
     ·have tb : decide (64 < restart) = true := decide_eq_true cb
      go_wp2_with fail
      go_ret2
      rw [q1z (.inr (.inl cb))]
      exact ⟨rfl, hB⟩
     ·have tb : decide (64 < restart) = false := decide_eq_false cb
      go_wp2_with fail
      refine (order_any l HL.out hs A0 c0 _ (Kd.C_below HR.out hB) hc0).mono ?_
      rintro e w3 ⟨rfl, hb3⟩
      cases ho : PBlock.order (l.map rowS) with
      | false =>
       go_wp2_with fail
       go_ret2
       rw [q1z (.inr (.inr (.inl ho)))]
       exact ⟨rfl, q0d hB hb3⟩
      | true =>
       go_wp2_with fail
       go_ret2
       rw [build_three (by rintro (h | h | h | h) <;> first | omega | exact hno h | (rw [ho] at h; cases h)) (.inl (by rw [List.length_map]; omega))]
       exact ⟨rfl, q0d hB hb3⟩
 ·have t0 : decide ((1024 : Int) < (l.length : Int)) = false := decide_eq_false hbig
  go_enter Try.func38, Try.ntmps38
  go_wp2_with fail
  go_loopw [6, 21] (fun v6 v21 wr => ∃ i : Nat, i ≤ l.length ∧ v6 = .int .i64 (worst l.length ((l.take i).map rowS) : Nat) ∧ v21 = .int .i64 i ∧ (∀ x ∈ l.take i, PBlock.check (rowS x) ≠ 2) ∧ Below w.heap.size w wr) (fun _ v21 _ => l.length - (intOf v21).toNat)
  case atStart => exact ⟨0, by omega, by unfold worst; rw [if_neg (by simp; omega)]; rfl, rfl, by simp, Below.refl _ _⟩
  case round =>
   obtain ⟨i, hi, rfl, rfl, hall, hB⟩ := hrel
   by_cases hlt : i < l.length
   ·have t1 : decide ((i : Int) < (l.length : Int)) = true := decide_eq_true (by omega)
    obtain ⟨ad, rfl, k0, k1, k2, k3⟩ := q15 (Kd.C_below HR.out hB) (i : Int) (by omega) (by omega)
    rw [q1h l i hlt, Int.toNat_natCast] at k0 k1 k2 k3
    have hw1 : ∀ c, PBlock.check (rowS l[i]) = c → c ≠ 2 → worst l.length ((l.take (i + 1)).map rowS) = max (worst l.length ((l.take i).map rowS)) c := by
     intro c hc h2
     rw [List.take_succ_eq_append_getElem hlt, List.map_append, List.map_cons, List.map_nil, worst_snoc _ _ _ (by rw [hc]; exact h2), hc]
    have HW1 := Lib.hid hw1
    clear hw1
    have hwl := worst_le l.length ((l.take i).map rowS)
    generalize worst l.length ((l.take i).map rowS) = q0 at hwl HW1 ⊢
    go_wp2_with fail
    refine (check_any l[i] (HL.out _ (List.getElem_mem _)) _).mono ?_
    rintro e w2 ⟨rfl, hb⟩
    have hB2 : Below w.heap.size w w2 := q0d (hB.alloc hB.size _) hb
    rcases hwl with rfl | rfl
    all_goals
     rcases q1l (rowS l[i]) with hc | hc | hc
     ·rw [hc]
      go_wp2_with fail
      go_roundw
      case rel => exact ⟨i + 1, by omega, by rw [HW1.out _ hc (by omega)]; rfl, by go_num, by rw [List.take_succ_eq_append_getElem hlt]; intro x hx; rcases List.mem_append.1 hx with hx | hx; exact hall x hx; rw [List.mem_singleton.1 hx, hc]; omega, hB2⟩
      case measure => simp [intOf]; omega
     ·rw [hc]
      go_wp2_with fail
      go_ret2
      rw [q1z (.inr (.inr (.inr ⟨rowS l[i], List.mem_map_of_mem (List.getElem_mem _), hc⟩)))]
      exact ⟨rfl, hB2⟩
     ·rw [hc]
      go_wp2_with fail
      go_roundw
      case rel => exact ⟨i + 1, by omega, by rw [HW1.out _ hc (by omega)]; rfl, by go_num, by rw [List.take_succ_eq_append_getElem hlt]; intro x hx; rcases List.mem_append.1 hx with hx | hx; exact hall x hx; rw [List.mem_singleton.1 hx, hc]; omega, hB2⟩
      case measure => simp [intOf]; omega
   ·have t1 : decide ((i : Int) < (l.length : Int)) = false := decide_eq_false (by omega)
    obtain rfl : i = l.length := by omega
    rw [List.take_length] at hall ⊢
    have hno : ¬ ∃ r ∈ l.map rowS, PBlock.check r = 2 := by
     rintro ⟨r, hr, e⟩
     obtain ⟨x, hx, rfl⟩ := List.mem_map.1 hr
     exact hall x hx e
    by_cases ca : restart < 1
    ·have ta : decide (restart < 1) = true := decide_eq_true ca
     go_wp2_with fail
     go_ret2
     rw [q1z (.inl ca)]
     exact ⟨rfl, hB⟩
    ·have ta : decide (restart < 1) = false := decide_eq_false ca
     by_cases cb : 64 < restart
     ·have tb : decide (64 < restart) = true := decide_eq_true cb
      go_wp2_with fail
      go_ret2
      rw [q1z (.inr (.inl cb))]
      exact ⟨rfl, hB⟩
     ·have tb : decide (64 < restart) = false := decide_eq_false cb
      go_wp2_with fail
      refine (order_any l HL.out hs A0 c0 _ (Kd.C_below HR.out hB) hc0).mono ?_
      rintro e w3 ⟨rfl, hb3⟩
      cases ho : PBlock.order (l.map rowS) with
      | false =>
       go_wp2_with fail
       go_ret2
       rw [q1z (.inr (.inr (.inl ho)))]
       exact ⟨rfl, q0d hB hb3⟩
      | true =>
       have hgood : ¬ (restart < 1 ∨ 64 < restart ∨ PBlock.order (l.map rowS) = false ∨ ∃ r ∈ l.map rowS, PBlock.check r = 2) := by
        rintro (h | h | h | h) <;> first | omega | exact hno h | (rw [ho] at h; cases h)
       have hwl := worst_le l.length (l.map rowS)
       obtain ⟨q0, hq0⟩ : ∃ q0, q0 = worst l.length (l.map rowS) := ⟨_, rfl⟩
       rw [← hq0] at hwl ⊢
       have HQ := Lib.hid hq0
       have HG := Lib.hid hgood
       have HN := Lib.hid hno
       clear hq0 hgood hno hall
       rcases hwl with rfl | rfl
       ·have hall0 := worst_zero HQ.out HN.out
        obtain ⟨R, rfl⟩ := Int.eq_ofNat_of_zero_le (show 0 ≤ restart by omega)
        have hB3 : Below w.heap.size w w3 := q0d hB hb3
        have HK := Lib.hid hall0.2
        have hn := hall0.1
        clear hall0 HN hb3 hB
        go_wp2_with fail
        have pO := Blk.new w3 55 #[.slice none 0 0]
        have lO := hB3.alloc hB3.size (.cells #[.slice none 0 0] 55)
        have gO := hB3.size
        refine (writer_any w _ _ pO gO lO).mono ?_
        rintro e w4 ⟨rfl, h3⟩
        clear pO lO
        generalize (World.alloc w3 _).heap.size + 1 = b2 at h3 ⊢
        generalize (World.alloc w3 _).heap.size = b3 at h3 ⊢
        generalize w3.heap.size = b1 at h3 gO ⊢
        clear hB3
        go_wp2_with fail
        go_loopw [11, 51] (fun v11 v51 wx => ∃ (i : Nat) (v : Value) (last : ByteArray), i ≤ l.length ∧ v11 = .string (B (PBlock.fours (PBlock.ends R 0 0 [] ((l.take i).map rowS)))) ∧ v51 = .int .i64 i ∧ W3 w wx b1 b2 b3 v (B (PBlock.enc R 0 [] ((l.take i).map rowS))) last ∧ L last = PBlock.lastOf [] ((l.take i).map rowS) ∧ (PBlock.enc R 0 [] ((l.take i).map rowS)).length ≤ 65536) (fun _ v51 _ => l.length - (intOf v51).toNat)
        case atStart => exact ⟨0, _, _, by omega, rfl, rfl, h3, rfl, by simp [PBlock.enc]⟩
        case round =>
         clear h3
         obtain ⟨i, v, last, hi2, rfl, rfl, hW, hlast, henc⟩ := hrel
         by_cases hlt2 : i < l.length
         ·have t2 : decide ((i : Int) < (l.length : Int)) = true := decide_eq_true (by omega)
          obtain ⟨ad, rfl, k0, k1, k2, k3⟩ := q15 (Kd.C_below HR.out hW.low) (i : Int) (by omega) (by omega)
          rw [q1h l i hlt2, Int.toNat_natCast] at k0 k1 k2 k3
          have hs1 : (l.take (i + 1)).map rowS = (l.take i).map rowS ++ [rowS l[i]] := by rw [List.take_succ_eq_append_getElem hlt2, List.map_append, List.map_cons, List.map_nil]
          have hlen : ((l.take i).map rowS).length = i := by rw [List.length_map, List.length_take]; omega
          have hX := PBlock.enc_snoc R ((l.take i).map rowS) (rowS l[i]) 0 []
          have hE := PBlock.ends_snoc R ((l.take i).map rowS) (rowS l[i]) 0 0 []
          have hLa := PBlock.lastOf_snoc [] ((l.take i).map rowS) (rowS l[i])
          rw [hlen, Nat.zero_add, ← hs1] at hX hE
          rw [← hs1] at hLa
          rw [← hlast] at hX
          have hck := HK.out (rowS l[i]) (List.mem_map_of_mem (List.getElem_mem _))
          have hbd := PBlock.check_ok hck
          have hf := HL.out l[i] (List.getElem_mem _)
          have hll : (L last).length ≤ 520 := by
           rw [hlast]
           by_cases h0 : i = 0
           ·subst h0; simp [PBlock.lastOf]
           ·obtain ⟨j, rfl⟩ : ∃ j, i = j + 1 := ⟨i - 1, by omega⟩
            rw [List.take_succ_eq_append_getElem (by omega), List.map_append, List.map_cons, List.map_nil, PBlock.lastOf_snoc]
            exact (PBlock.check_ok (HK.out (rowS l[j]) (List.mem_map_of_mem (List.getElem_mem _)))).2.2.2.2.2.1
          have hkl : (l[i]).f0.size ≤ 520 := by rw [← q0g]; exact hbd.2.2.2.2.2.1
          have hvl : (l[i]).f3.size ≤ 2048 := by rw [← q0g]; exact hbd.2.2.2.2.2.2
          have hrl := PBlock.rowEnc_le (rowS l[i]) (if i % R = 0 then [] else L last) hck
          obtain ⟨x0, x1, x2, x3, hx⟩ : ∃ (x0 : ByteArray) (x1 x2 : Int) (x3 : ByteArray), l[i] = ⟨x0, x1, x2, x3⟩ := ⟨_, _, _, _, rfl⟩
          have hfar : 65536 < (PBlock.enc R 0 [] ((l.take (i + 1)).map rowS)).length → PBlock.build (l.map rowS) (R : Int) = ([], 3) := fun h => PBlock.build_far HG.out (n := i + 1) (by rw [Int.toNat_natCast, ← List.map_take]; exact h)
          rw [hx] at k0 k1 k2 k3 hX hLa hkl hvl hf hrl
          have HLa := Lib.hid hLa
          have hel := PBlock.ends_length_le R ((l.take i).map rowS) 0 0 []
          rw [hlen] at hel
          clear hLa hlast hbd hck hs1 hlen
          obtain ⟨X', eX⟩ : ∃ X', PBlock.enc R 0 [] ((l.take (i + 1)).map rowS) = X' := ⟨_, rfl⟩
          obtain ⟨E', eE⟩ : ∃ E', PBlock.ends R 0 0 [] ((l.take (i + 1)).map rowS) = E' := ⟨_, rfl⟩
          rw [eX] at hX hfar
          have HF := Lib.hid hfar
          clear hfar
          rw [eE] at hE
          have HEX := Lib.hid eX
          have HEE := Lib.hid eE
          clear eX eE
          generalize PBlock.enc R 0 [] ((l.take i).map rowS) = X at *
          generalize PBlock.ends R 0 0 [] ((l.take i).map rowS) = E at *
          have z1 : (B (PBlock.fours E)).size ≤ 4096 := by rw [q0n, PBlock.fours_length]; omega
          have z2 : (B (PBlock.four X.length)).size = 4 := by rw [q0n]; rfl
          have P4 := fun w' => four_any X.length w'
          have hcat : B (PBlock.fours (E ++ [0 + X.length])) = B (PBlock.fours E) ++ B (PBlock.four X.length) := by
           apply L_inj
           rw [q0t, L_B, L_B, L_B, PBlock.fours_append, Nat.zero_add]
           simp [PBlock.fours]
          have HC := Lib.hid hcat
          have HP4 := Lib.hid P4
          clear hcat P4
          obtain ⟨te, ht⟩ : ∃ te, te = B (PBlock.fours E) := ⟨_, rfl⟩
          rw [← ht] at z1 HC ⊢
          have HT := Lib.hid (congrArg Value.string ht)
          clear ht
          generalize B (PBlock.four X.length) = tf at z2 HC HP4
          have zc : (9223372036854775807 < te.size + tf.size) = False := eq_false (by omega)
          have HZ1 := Lib.hid z1
          have HZ2 := Lib.hid z2
          clear z1 z2
          have hfr : (R : Int) ≠ 0 := by omega
          obtain ⟨A1, m1, c1, rfl⟩ := own_slice hW.row
          obtain rfl : m1 = X.length := by rw [W3.size hW, q0n]
          have cO := (hW.out.cell 0).trans rfl
          have hO := hW.out.lt
          by_cases hz : i % R = 0
          ·rw [if_pos hz] at hX hE hrl
           have t3 : ((i : Int) % (R : Int) == 0) = true := by rw [show ((i : Int) % (R : Int)) = ((i % R : Nat) : Int) from rfl, hz]; rfl
           have HX := Lib.hid hX
           have HE := Lib.hid hE
           have HZ := Lib.hid hrl
           clear hX hE hrl hz
           go_wp2_with fail
           refine (HP4.out _).mono ?_
           rintro e w5 ⟨rfl, hb5⟩
           have hW5 : W3 w w5 b1 b2 b3 (Value.slice A1 X.length c1) (B X) last := (hW.alloc _).below hb5
           have hI5 := (Blk.new wr 28 #[.string x0, .int .u64 x1, .int .i64 x2, .string x3]).below hb5 (by simp)
           go_wp2_with fail
           have d0 := (hI5.cell 0).trans rfl
           have d1 := (hI5.cell 1).trans rfl
           have d2 := (hI5.cell 2).trans rfl
           have d3 := (hI5.cell 3).trans rfl
           have hR0 : (R = 0) = False := eq_false (by omega)
           have htm : (i : Int).tmod (R : Int) = (i : Int) % (R : Int) := Int.tmod_eq_emod_of_nonneg (by omega)
           go_still_tail 6, (by kernel_rfl)
           clear hR0 htm
           change wpList _ _ _ _ _ w5.drew
           have hW6 := hW5.drew
           have hb6 : Below w.heap.size w w5.drew := hW6.low
           generalize w5.drew = w6 at hW6 ⊢
           clear d0 d1 d2 d3 hW5 hI5 hb5
           go_wp2_with fail
           refine (write_first w w6 b1 b2 b3 _ _ last x0 x3 x1 x2 hW6 hkl hvl (by rw [q0n]; omega) hf.s0 hf.s1).mono ?_
           rintro e w7 ⟨rfl, v7, hW7⟩
           have hBX : B X ++ B (PBlock.rowEnc (rowOf x0 x1 x2 x3) []) = B X' := by
            apply L_inj; rw [q0t, L_B, L_B, L_B, HX.out]; rfl
           rw [hBX] at hW7
           clear hBX hW6
           obtain ⟨A7, m7, c7, rfl⟩ := own_slice hW7.row
           obtain rfl : m7 = X'.length := by rw [W3.size hW7, q0n]
           have cO7 := (hW7.out.cell 0).trans rfl
           have hO7 := hW7.out.lt
           by_cases hbg : 65536 < X'.length
           ·have t7 : decide ((65536 : Int) < (X'.length : Int)) = true := decide_eq_true (by omega)
            go_wp2_with fail
            go_ret2
            rw [HF.out hbg]
            exact ⟨rfl, hW7.low⟩
           ·have t7 : decide ((65536 : Int) < (X'.length : Int)) = false := decide_eq_false (by omega)
            go_wp2_with fail
            go_roundw
            case rel => exact ⟨i + 1, _, x0, by omega, by rw [HEE.out, HE.out, HC.out], by go_num, by rw [HEX.out]; exact hW7, by rw [HLa.out]; rfl, by rw [HEX.out]; omega⟩
            case measure => simp [intOf]; omega
          ·rw [if_neg hz] at hX hE hrl
           rw [List.append_nil] at hE
           have t3 : ((i : Int) % (R : Int) == 0) = false := by rw [show ((i : Int) % (R : Int)) = ((i % R : Nat) : Int) from rfl]; exact beq_eq_false_iff_ne.2 (by omega)
           have HX := Lib.hid hX
           have HE := Lib.hid hE
           have HZ := Lib.hid hrl
           clear hX hE hrl hz
           have hW5 : W3 w (wr.alloc (.cells #[.string x0, .int .u64 x1, .int .i64 x2, .string x3] 28)) b1 b2 b3 (Value.slice A1 X.length c1) (B X) last := hW.alloc _
           have hI5 := Blk.new wr 28 #[.string x0, .int .u64 x1, .int .i64 x2, .string x3]
           go_wp2_with fail
           generalize wr.alloc _ = w5 at hW5 hI5 ⊢
           have d0 := (hI5.cell 0).trans rfl
           have d1 := (hI5.cell 1).trans rfl
           have d2 := (hI5.cell 2).trans rfl
           have d3 := (hI5.cell 3).trans rfl
           have hR0 : (R = 0) = False := eq_false (by omega)
           have htm : (i : Int).tmod (R : Int) = (i : Int) % (R : Int) := Int.tmod_eq_emod_of_nonneg (by omega)
           go_still_tail 6, (by kernel_rfl)
           clear hR0 htm
           change wpList _ _ _ _ _ w5.drew
           have hW6 := hW5.drew
           have hb6 : Below w.heap.size w w5.drew := hW6.low
           generalize w5.drew = w6 at hW6 ⊢
           clear d0 d1 d2 d3 hW5 hI5
           go_wp2_with fail
           refine (write_next w w6 b1 b2 b3 _ _ last x0 x3 x1 x2 hW6 hkl hvl (by rw [q0n]; omega) (by rw [← q0g]; exact hll) hf.s0 hf.s1).mono ?_
           rintro e w7 ⟨rfl, v7, hW7⟩
           have hBX : B X ++ B (PBlock.rowEnc (rowOf x0 x1 x2 x3) (L last)) = B X' := by
            apply L_inj; rw [q0t, L_B, L_B, L_B, HX.out]; rfl
           rw [hBX] at hW7
           clear hBX hW6
           obtain ⟨A7, m7, c7, rfl⟩ := own_slice hW7.row
           obtain rfl : m7 = X'.length := by rw [W3.size hW7, q0n]
           have cO7 := (hW7.out.cell 0).trans rfl
           have hO7 := hW7.out.lt
           by_cases hbg : 65536 < X'.length
           ·have t7 : decide ((65536 : Int) < (X'.length : Int)) = true := decide_eq_true (by omega)
            go_wp2_with fail
            go_ret2
            rw [HF.out hbg]
            exact ⟨rfl, hW7.low⟩
           ·have t7 : decide ((65536 : Int) < (X'.length : Int)) = false := decide_eq_false (by omega)
            go_wp2_with fail
            go_roundw
            case rel => exact ⟨i + 1, _, x0, by omega, by rw [HEE.out, HE.out]; exact HT.out, by go_num, by rw [HEX.out]; exact hW7, by rw [HLa.out]; rfl, by rw [HEX.out]; omega⟩
            case measure => simp [intOf]; omega
         ·have t2 : decide ((i : Int) < (l.length : Int)) = false := decide_eq_false (by omega)
          obtain rfl : i = l.length := by omega
          have hel := PBlock.ends_length_le R ((l.take l.length).map rowS) 0 0 []
          have hbw : PBlock.build (l.map rowS) (R : Int) = if 65536 < (PBlock.whole (l.map rowS) R).length then ([], 3) else (PBlock.whole (l.map rowS) R, 0) := by
           by_cases hw : 65536 < (PBlock.whole (l.map rowS) R).length
           ·rw [if_pos hw]; exact build_three HG.out (.inr (.inr (by rw [Int.toNat_natCast]; exact hw)))
           ·rw [if_neg hw]; exact PBlock.build_of (by omega) (by omega) ho HK.out (by rw [List.length_map]; omega) (by rw [Int.toNat_natCast]; omega)
          have hwl : (PBlock.whole (l.map rowS) R).length = _ := PBlock.whole_length (l.map rowS) R
          have hwe : B (PBlock.whole (l.map rowS) R) = _ := congrArg B (show PBlock.whole (l.map rowS) R = PBlock.enc R 0 [] (l.map rowS) ++ PBlock.fours (PBlock.ends R 0 0 [] (l.map rowS)) ++ PBlock.four (PBlock.ends R 0 0 [] (l.map rowS)).length ++ PBlock.four R from rfl)
          rw [List.take_length] at hW henc hel ⊢
          rw [List.length_map] at hel
          generalize PBlock.ends R 0 0 [] (l.map rowS) = E at hel hwl hwe ⊢
          generalize PBlock.enc R 0 [] (l.map rowS) = X at hW henc hwl hwe
          have z0 : (B X).size = X.length := q0n _
          have z1 : (B (PBlock.fours E)).size = 4 * E.length := by rw [q0n, PBlock.fours_length]
          have z2 : (B (PBlock.four E.length)).size = 4 := by rw [q0n]; rfl
          have z3 : (B (PBlock.four R)).size = 4 := by rw [q0n]; rfl
          have hcat : B (PBlock.whole (l.map rowS) R) = B X ++ B (PBlock.fours E) ++ B (PBlock.four E.length) ++ B (PBlock.four R) := by
           rw [hwe]; apply L_inj; simp only [q0t, L_B]
          clear hwe
          have P4 := four_any E.length
          have P5 := four_any R
          have HB := Lib.hid hbw
          have HC := Lib.hid hcat
          have HWL := Lib.hid hwl
          have hq4 : ((B (PBlock.fours E)).size : Int).tdiv 4 = (E.length : Int) := by rw [z1, Int.tdiv_eq_ediv_of_nonneg (by omega)]; omega
          have hwr : IntKind.i64.wrap (E.length : Int) = (E.length : Int) := IntWalk.i64_in _ (by omega)
          clear hbw hwl
          have hcv := fun (w' : World) (h : W3 w w' b1 b2 b3 v (B X) last) => conv_str (B X) h.row
          have zw : (B (PBlock.whole (l.map rowS) R)).size = (PBlock.whole (l.map rowS) R).length := q0n _
          have HP4 := Lib.hid P4
          have HP5 := Lib.hid P5
          have HV := Lib.hid hcv
          have HTE := Lib.hid z1
          have c1 : (9223372036854775807 < (B X).size + (B (PBlock.fours E)).size) = False := eq_false (by omega)
          have c2 : (9223372036854775807 < (B X ++ B (PBlock.fours E)).size + (B (PBlock.four E.length)).size) = False := eq_false (by rw [ByteArray.size_append]; omega)
          have c2' : (9223372036854775807 < (B X).size + (B (PBlock.fours E)).size + (B (PBlock.four E.length)).size) = False := eq_false (by omega)
          have c3 : (9223372036854775807 < (B X ++ B (PBlock.fours E) ++ B (PBlock.four E.length)).size + (B (PBlock.four R)).size) = False := eq_false (by rw [ByteArray.size_append, ByteArray.size_append]; omega)
          have c3' : (9223372036854775807 < (B X).size + (B (PBlock.fours E)).size + (B (PBlock.four E.length)).size + (B (PBlock.four R)).size) = False := eq_false (by omega)
          clear P4 P5 hcv z0 z1 z2 z3 hcat hlast henc
          generalize B X = tx at *
          generalize B (PBlock.fours E) = te at *
          generalize B (PBlock.four E.length) = tf at *
          generalize B (PBlock.four R) = tg at *
          obtain ⟨tw, htw⟩ : ∃ tw, B (PBlock.whole (l.map rowS) R) = tw := ⟨_, rfl⟩
          rw [htw] at HC zw
          have HTW0 := Lib.hid htw
          clear htw
          obtain ⟨A1, m1, k1, rfl⟩ := own_slice hW.row
          have hWd := hW.drew
          have hO := hWd.out.lt
          go_wp2_with fail
          go_region_held3 (fun w' => w'.cell? ⟨b1, 0, none⟩ = some (.slice A1 m1 k1) ∧ (convert 55 9 (.slice A1 m1 k1)).run Try.prog w' = .ok (.string tx) w') (exact ⟨(hWd.out.cell 0).trans rfl, HV.out _ hWd⟩) (first | (((with_reducible refine (HP4.out _).mono ?_); rintro e w5 ⟨rfl, hb5⟩; have hWd := hWd.below hb5)) | (((with_reducible refine (HP5.out _).mono ?_); rintro e w6 ⟨rfl, hb6⟩; have hWd := hWd.below hb6)))
          rw [← HC.out]
          have hlow := hWd.low
          have HB2 := HB.out
          have HTW : Hid (B (PBlock.whole (l.map rowS) R) = tw) := HTW0
          clear hW hWd hO hb5 hb6 hq4 hwr c1 c2 c2' c3 c3'
          by_cases hfin : 65536 < (PBlock.whole (l.map rowS) R).length
          ·have t9 : decide ((65536 : Int) < (tw.size : Int)) = true := decide_eq_true (by omega)
           rw [if_pos hfin] at HB2
           have HB := Lib.hid HB2
           clear HB2 zw hfin
           go_wp2_with fail
           go_ret2
           rw [HB.out]
           exact ⟨rfl, hlow⟩
          ·have t9 : decide ((65536 : Int) < (tw.size : Int)) = false := decide_eq_false (by omega)
           rw [if_neg hfin] at HB2
           have HB := Lib.hid HB2
           clear HB2 zw hfin
           go_wp2_with fail
           go_ret2
           rw [HB.out]
           exact ⟨by rw [HTW.out]; rfl, hlow⟩
       ·go_wp2_with fail
        go_ret2
        rw [build_three HG.out (by rw [List.length_map]; exact (worst_three HQ.out).elim .inl fun h => .inr (.inl h))]
        exact ⟨rfl, q0d hB hb3⟩
end Go.Proofs.Ytaigmemmgjlhgaa.Block
-- GBlockB
namespace Go.Proofs.Ytaigmemmgjlhgaa.Print
open Go.RowKit Txt Block Go.Proofs.YtaigmemmgjlhgaaW.PrintWords
def FitB (l : List S28) (r : Int) : Prop := (∀ x ∈ l, 0 ≤ x.f1 ∧ x.f1 < 18446744073709551616) ∧ l.length ≤ 9223372036854775806 ∧ -9223372036854775808 ≤ r ∧ r ≤ 9223372036854775807
instance (l : List S28) (r : Int) : Decidable (FitB l r) := by unfold FitB; infer_instance
def block_Build.f (l0 : List S28) (a1 : Int) : Option (ByteArray × Int) :=
 if FitB l0 a1 then some (B (PBlock.build (l0.map rowS) a1).1, ((PBlock.build (l0.map rowS) a1).2 : Int)) else none
theorem block_Build.eq (l0 : List S28) (a1 : Int) (h : FitB l0 a1) : block_Build.f l0 a1 = some (B (PBlock.build (l0.map rowS) a1).1, ((PBlock.build (l0.map rowS) a1).2 : Int)) := if_pos h
theorem block_Build.calls (A0 : Option Addr) (c0 : Nat) (l0 : List S28) (a1 : Int) (r1 : ByteArray) (r2 : Int) (w : World) (hr0 : Kd.C k28 w A0 l0.length l0) (hc0 : l0.length ≤ c0) (h : block_Build.f l0 a1 = some (r1, r2)) :
  Calls Try.prog 38 #[.slice A0 l0.length c0, .int .i64 a1] w fun e w' => e = .returned (.tuple #[.string r1, .int .i64 r2]) ∧ Below w.heap.size w w' := by
 unfold block_Build.f at h
 split at h
 ·rename_i hf
  simp only [Option.some.injEq, Prod.mk.injEq] at h
  obtain ⟨rfl, rfl⟩ := h
  exact build_any l0 (fun x hx => ⟨(hf.1 x hx).1, (hf.1 x hx).2⟩) hf.2.1 A0 c0 a1 hf.2.2.1 hf.2.2.2 w hr0 hc0
 ·cases h
end Go.Proofs.Ytaigmemmgjlhgaa.Print
-- Print8
namespace Go.Proofs.Ytaigmemmgjlhgaa.Print
open Go.RowKit Go.Proofs.YtaigmemmgjlhgaaW.PrintWords Go.Proofs.YtaigmemmgjlhgaaW.PrintLast Go.Proofs.YtaigmemmgjlhgaaW.PrintMore
attribute [local go_sem] q1d q1b q1t q1s q19 q17 q1c q1a
set_option linter.unusedVariables false
set_option linter.unusedSimpArgs false
def block_Rows.l0 : Nat → ByteArray → ByteArray → List (S28) → ByteArray → Int → Option ((List (S28)) × Int)
 | 0, _, _, _, _, _ => none
 | k + 1, x0, x4, x7, x8, x9 => if x9 < (x4.size : Int) then (if 0 ≤ x9 then (if x9 ≤ (x4.size : Int) then ((block_read.f (x4.extract (x9 : Int).toNat x4.size) x8).bind fun bt137 => (if bt137.2.2.2.2 = 0 then (some (([] : List (S28)), 7)) else (if (x7.length : Int) = 1024 then (some (([] : List (S28)), 7)) else (if x7.length < 2932031007402 then (block_Rows.l0 k x0 x4 (x7 ++ [(⟨bt137.1, bt137.2.1, bt137.2.2.1, bt137.2.2.2.1⟩ : S28)]) bt137.1 (wrap64 (x9 + bt137.2.2.2.2))) else (none))))) else (none)) else (none)) else (if 0 ≤ (wrap64 ((x0.size : Int) - 4)) then (if (wrap64 ((x0.size : Int) - 4)) ≤ (x0.size : Int) then ((block_whole.f (x0.extract ((wrap64 ((x0.size : Int) - 4)) : Int).toNat x0.size)).bind fun t146 => ((block_Build.f x7 t146).bind fun bt147 => (if bt147.2 = 0 then (if bt147.1.toList = x0.toList then (some (x7, 0)) else (some (([] : List (S28)), 7))) else (some (([] : List (S28)), 7))))) else (none)) else (none))
def block_Rows.f (k : Nat) (a0 : ByteArray) : Option ((List (S28)) × Int) := (block_parts.f k a0).bind fun bt132 => (if bt132.2.2 = true then (block_Rows.l0 k a0 bt132.1 ([] : List (S28)) (⟨#[]⟩ : ByteArray) 0) else (some (([] : List (S28)), 7)))
theorem block_Rows.mono_l : ∀ k, (∀ y0 y1 y2 y3 y4, LeO (block_Rows.l0 k y0 y1 y2 y3 y4) (block_Rows.l0 (k + 1) y0 y1 y2 y3 y4))
 | 0 => fun _ _ _ _ _ r h => by simp [block_Rows.l0] at h
 | k + 1 => by
  have ih0 := block_Rows.mono_l k
  ·intro y0 y1 y2 y3 y4
   unfold block_Rows.l0
   repeat' first
   | (with_reducible exact ih0 _ _ _ _ _)
   | (with_reducible exact block_parts.mono _ _)
   | (with_reducible exact LeO.refl _)
   | (with_reducible exact LeO.none _)
   | (with_reducible refine LeO.ite ?_ ?_)
   | (with_reducible refine LeO.bind ?_ (fun _ => ?_))
   | exact ih0 _ _ _ _ _
   | exact block_parts.mono _ _
   | exact LeO.none _
   | refine LeO.ite ?_ ?_
   | refine LeO.bind ?_ (fun _ => ?_)
theorem block_Rows.mono : ∀ a0 k, LeO (block_Rows.f k a0) (block_Rows.f (k + 1) a0) := by
 intro a0 k
 have ih0 := block_Rows.mono_l k
 unfold block_Rows.f
 repeat' first
   | (with_reducible exact ih0 _ _ _ _ _)
   | (with_reducible exact block_parts.mono _ _)
   | (with_reducible exact LeO.refl _)
   | (with_reducible exact LeO.none _)
   | (with_reducible refine LeO.ite ?_ ?_)
   | (with_reducible refine LeO.bind ?_ (fun _ => ?_))
   | exact ih0 _ _ _ _ _
   | exact block_parts.mono _ _
   | exact LeO.none _
   | refine LeO.ite ?_ ?_
   | refine LeO.bind ?_ (fun _ => ?_)
def block_Rows.T11 : Bool × List (List Nat × List Nat) := (true, [([], []), ([], []), ([1], [1]), ([0, 2], [0, 2]), ([], []), ([4], [4]), ([], []), ([], []), ([6, 7], [6, 7]), ([3, 3, 0, 1, 2, 3], [0, 3]), ([5, 9, 0, 1, 2, 3, 4, 5, 9], [5]), ([8, 10, 0, 1, 2, 3, 4, 5, 6, 7, 8, 9, 10], [6, 8])])
def block_Rows.B11 : List Nat := [0, 0, 2, 7, 0, 16, 0, 0, 192, 15, 575, 2047]
theorem block_Rows.tab11 : rtab .any (opsOf Try.f42 11) = block_Rows.T11 := by kernel_rfl
theorem block_Rows.bits11 : waitsOk block_Rows.T11.2 block_Rows.B11 = true := by kernel_rfl
set_option maxHeartbeats 8000000 in
set_option maxRecDepth 100000 in
theorem block_Rows.calls (k : Nat) (a0 : ByteArray) (r1 : List (S28)) (r2 : Int) (w : World) (h : block_Rows.f k a0 = some (r1, r2)) :
  Calls Try.prog 42 #[.string a0] w fun e w' => ∃ v0_ : Value, e = .returned (.tuple #[v0_, .int .i64 r2]) ∧ Kd.R k28 28 w' w.heap.size (fun _ => True) v0_ r1 ∧ Below w.heap.size w w' := by
 have hu28 := Try.underlying28
 have HB := q04.mk (Below.refl w.heap.size w)
 have H : ((block_parts.f k a0).bind fun bt132 => (if bt132.2.2 = true then (block_Rows.l0 k a0 bt132.1 ([] : List (S28)) (⟨#[]⟩ : ByteArray) 0) else (some (([] : List (S28)), 7)))) = some (r1, r2) := h
 clear h
 replace H := Option.bind_eq_some_iff.mp H
 obtain ⟨⟨t132, t133, t134⟩, A20, H⟩ := H
 replace H : (if t134 = true then (block_Rows.l0 k a0 t132 ([] : List (S28)) (⟨#[]⟩ : ByteArray) 0) else (some (([] : List (S28)), 7))) = some (r1, r2) := H
 have A2 := q04.mk A20
 clear A20
 by_cases c3 : t134 = true
 ·subst c3
  have H1 : (block_Rows.l0 k a0 t132 ([] : List (S28)) (⟨#[]⟩ : ByteArray) 0) = some (r1, r2) := by rw [if_pos rfl] at H; exact H
  clear H
  have H := H1
  clear H1
  have H' := q04.mk H
  clear H
  go_enter Try.func42, Try.ntmps42
  go_wp2_with (first | ((with_reducible refine q0h (f := 64) rfl ?_); refine q0s (some 16) rfl rfl Try.func64 (by kernel_rfl) rfl #[.string a0] rfl (by (try simp only [List.map_toArray, List.map_cons, List.map_nil]); first | done | rfl | (simp only [List.length_drop, List.length_take]; rfl)) ?_; (with_reducible refine (block_parts.calls k a0 t132 t133 true _ A2.out).mono ?_); rintro e w4 ⟨v135, rfl, ho0, hb⟩; refine ⟨_, rfl, ?_⟩; have n0_ := q04.mk (Kd.R_lower ho0 (q0e (by repeat (first | (with_reducible first | exact HB.out | apply q02 | apply q00 | apply q01) | exact HB.out)))); have n1_ := q04.mk (q0a (by repeat (first | (with_reducible first | exact HB.out | apply q02 | apply q00 | apply q01) | exact HB.out)) hb); clear HB; have HO136 := n0_; have HB := n1_; clear n0_ n1_; (try clear hb); (try clear hb2); (try clear hk); (try clear hi); (try clear ho0)))
  go_loopg [7, 8, 9] k (fun kq v7 v8 v9 w' => ∃ (x7_1 : List (S28)) (x8_1 : ByteArray) (x9_1 : Int), v8 = .string x8_1 ∧ v9 = .int .i64 x9_1 ∧ q04 (block_Rows.l0 kq a0 t132 x7_1 x8_1 x9_1 = some (r1, r2)) ∧ q04 (kq ≤ k) ∧ q04 (Kd.R k28 28 w' w.heap.size (fun _ => True) v7 x7_1) ∧ q04 (Below w.heap.size w w'))
  case atStart => exact ⟨(([] : List (S28))), ((⟨#[]⟩ : ByteArray)), (0), (by first | rfl | (simp; done) | (simp [*]; done)), (by first | rfl | (simp; done) | (simp [*]; done)), H', ⟨Nat.le_refl _⟩, ⟨by first | exact Kd.R_nil _ _ _ _ _ | exact Kd.N_nil _ _ _ _ _ | exact Kd.V_nil _ _ _ _ _ | exact Kd.Q_nil _ _ _ _ _ | exact Kd.S_nil _ _ _ _ _⟩, ⟨by repeat (first | (with_reducible first | exact HB.out | apply q02 | apply q00 | apply q01) | exact HB.out)⟩⟩
  case round =>
   clear H'
   try clear p2
   try clear c3
   try clear c4
   obtain ⟨x7_1, x8_1, x9_1, rfl, rfl, HA, HK1, HO_7, HB⟩ := hrel
   cases gk with
   | zero => exact absurd HA.out (by simp [block_Rows.l0])
   | succ k1 =>
    have H := HA.out
    clear HA
    simp only [block_Rows.l0] at H
    by_cases c5 : x9_1 < (t132.size : Int)
    ·rw [if_pos c5] at H
     have c5b0 : decide (x9_1 < (t132.size : Int)) = true := decide_eq_true c5
     clear c5
     by_cases c6 : 0 ≤ x9_1
     ·rw [if_pos c6] at H
      have c6b0 := eq_true c6
      have c6b1 : decide (0 ≤ x9_1) = true := decide_eq_true c6
      clear c6
      by_cases c7 : x9_1 ≤ (t132.size : Int)
      ·rw [if_pos c7] at H
       have c7b0 := eq_true c7
       have c7b1 : decide (x9_1 ≤ (t132.size : Int)) = true := decide_eq_true c7
       clear c7
       replace H := Option.bind_eq_some_iff.mp H
       obtain ⟨⟨t137, t138, t139, t140, t141⟩, A80, H⟩ := H
       replace H : (if t141 = 0 then (some (([] : List (S28)), 7)) else (if (x7_1.length : Int) = 1024 then (some (([] : List (S28)), 7)) else (if x7_1.length < 2932031007402 then (block_Rows.l0 k1 a0 t132 (x7_1 ++ [(⟨t137, t138, t139, t140⟩ : S28)]) t137 (wrap64 (x9_1 + t141))) else (none)))) = some (r1, r2) := H
       have A8 := q04.mk A80
       clear A80
       by_cases c9 : t141 = 0
       ·rw [if_pos c9] at H
        have c9b0 : (t141 == 0) = true := beq_iff_eq.mpr c9
        have c9b1 : (t141 != 0) = false := bne_eq_false_iff_eq.mpr c9
        clear c9
        simp only [Option.some.injEq, Prod.mk.injEq] at H
        obtain ⟨rfl, rfl⟩ := H
        go_wp2_with (first | ((with_reducible refine q0h (f := 65) rfl ?_); refine q0s (some 31) rfl rfl Try.func65 (by kernel_rfl) rfl #[.string (t132.extract (x9_1 : Int).toNat t132.size), .string x8_1] rfl (by (try simp only [List.map_toArray, List.map_cons, List.map_nil]); first | done | rfl | (simp only [List.length_drop, List.length_take]; rfl)) ?_; (with_reducible refine (block_read.calls (t132.extract (x9_1 : Int).toNat t132.size) x8_1 t137 t138 t139 t140 t141 _ A8.out).mono ?_); rintro e w10 ⟨rfl, hb⟩; refine ⟨_, rfl, ?_⟩; have n0_ := q04.mk (Kd.R_below (by (with_reducible repeat (first | apply Kd.R_alloc | apply Kd.R_drewN | apply Kd.R_drew)); exact HO_7.out) hb); have n1_ := q04.mk (q0a (by repeat (first | (with_reducible first | exact HB.out | apply q02 | apply q00 | apply q01) | exact HB.out)) hb); clear HO_7; clear HB; have HO_7 := n0_; have HB := n1_; clear n0_ n1_; (try clear hb); (try clear hb2); (try clear hk); (try clear hi)) | ((with_reducible refine q0q (N := 10) rfl ?_); (try (refine q0v (by rfl) ?_; dsimp only)); refine q0r ?hg (N := 10) ?hd (cs := #[.string (⟨#[]⟩ : ByteArray), .int .u64 0, .int .i64 0, .string (⟨#[]⟩ : ByteArray)]) (t := 28) ?hr ?_; (case hd => rfl); (case hg => rfl); (case hr => first | (go_simp; done) | (go_simp; rfl)); intro gb142 hg w11 hbox hb; have n0_ := q04.mk (Kd.R_below (Kd.R_elderB (by (with_reducible repeat (first | apply Kd.R_alloc | apply Kd.R_drewN | apply Kd.R_drew)); exact HO_7.out) gb142 (Nat.le_of_eq hg.symm)) hb); have n1_ := q04.mk (q0a (by repeat (first | (with_reducible first | exact HB.out | apply q02 | apply q00 | apply q01) | exact HB.out)) hb); have n2_ := q04.mk (hbox); have n3_ := q04.mk ((by rw [hg]; exact (q0e (by repeat (first | (with_reducible first | exact HB.out | apply q02 | apply q00 | apply q01) | exact HB.out))) : w.heap.size ≤ gb142)); have n4_ := q04.mk ((by rw [hg]; exact (q0e (by repeat (first | (with_reducible first | exact HB.out | apply q02 | apply q00 | apply q01) | exact HB.out))) : w.heap.size ≤ gb142)); clear HO_7; clear HB; have HO_7 := n0_; have HB := n1_; have BK142 := n2_; have GW142 := n3_; have GE142 := n4_; clear n0_ n1_ n2_ n3_ n4_; clear hb hbox hg; have hcz12_0 : w11.cell? ⟨gb142, 0, none⟩ = some (.string (⟨#[]⟩ : ByteArray)) := (q03 BK142.out 0).trans rfl; have hcz12_1 : w11.cell? ⟨gb142, 1, none⟩ = some (.int .u64 0) := (q03 BK142.out 1).trans rfl; have hcz12_2 : w11.cell? ⟨gb142, 2, none⟩ = some (.int .i64 0) := (q03 BK142.out 2).trans rfl; have hcz12_3 : w11.cell? ⟨gb142, 3, none⟩ = some (.string (⟨#[]⟩ : ByteArray)) := (q03 BK142.out 3).trans rfl; have hfz12_0 := q05 BK142.out 0; have hfz12_1 := q05 BK142.out 1; have hfz12_2 := q05 BK142.out 2; have hfz12_3 := q05 BK142.out 3))
        go_ret2
        exact ⟨_, by first | rfl | (simp [q0c, q0b] <;> rfl) | (simp [*, q0c, q0b] <;> rfl), by first | exact Kd.R_nil _ _ _ _ _ | exact Kd.N_nil _ _ _ _ _ | exact Kd.V_nil _ _ _ _ _ | exact Kd.Q_nil _ _ _ _ _ | exact Kd.S_nil _ _ _ _ _, by repeat (first | (with_reducible first | exact HB.out | apply q02 | apply q00 | apply q01 | refine q09 ?_ GE142.out) | exact HB.out)⟩
       ·rw [if_neg c9] at H
        have c9b0 : (t141 == 0) = false := beq_eq_false_iff_ne.mpr c9
        have c9b1 : (t141 != 0) = true := bne_iff_ne.mpr c9
        by_cases c13 : (x7_1.length : Int) = 1024
        ·rw [if_pos c13] at H
         have c13b0 : ((x7_1.length : Int) == 1024) = true := beq_iff_eq.mpr c13
         have c13b1 : ((x7_1.length : Int) != 1024) = false := bne_eq_false_iff_eq.mpr c13
         clear c13
         simp only [Option.some.injEq, Prod.mk.injEq] at H
         obtain ⟨rfl, rfl⟩ := H
         go_wp2_with (first | ((with_reducible refine q0h (f := 65) rfl ?_); refine q0s (some 31) rfl rfl Try.func65 (by kernel_rfl) rfl #[.string (t132.extract (x9_1 : Int).toNat t132.size), .string x8_1] rfl (by (try simp only [List.map_toArray, List.map_cons, List.map_nil]); first | done | rfl | (simp only [List.length_drop, List.length_take]; rfl)) ?_; (with_reducible refine (block_read.calls (t132.extract (x9_1 : Int).toNat t132.size) x8_1 t137 t138 t139 t140 t141 _ A8.out).mono ?_); rintro e w14 ⟨rfl, hb⟩; refine ⟨_, rfl, ?_⟩; have n0_ := q04.mk (Kd.R_below (by (with_reducible repeat (first | apply Kd.R_alloc | apply Kd.R_drewN | apply Kd.R_drew)); exact HO_7.out) hb); have n1_ := q04.mk (q0a (by repeat (first | (with_reducible first | exact HB.out | apply q02 | apply q00 | apply q01) | exact HB.out)) hb); clear HO_7; clear HB; have HO_7 := n0_; have HB := n1_; clear n0_ n1_; (try clear hb); (try clear hb2); (try clear hk); (try clear hi)) | ((with_reducible refine q0q (N := 10) rfl ?_); (try (refine q0v (by rfl) ?_; dsimp only)); refine q0r ?hg (N := 10) ?hd (cs := #[.string (⟨#[]⟩ : ByteArray), .int .u64 0, .int .i64 0, .string (⟨#[]⟩ : ByteArray)]) (t := 28) ?hr ?_; (case hd => rfl); (case hg => rfl); (case hr => first | (go_simp; done) | (go_simp; rfl)); intro gb142 hg w15 hbox hb; have n0_ := q04.mk (Kd.R_below (Kd.R_elderB (by (with_reducible repeat (first | apply Kd.R_alloc | apply Kd.R_drewN | apply Kd.R_drew)); exact HO_7.out) gb142 (Nat.le_of_eq hg.symm)) hb); have n1_ := q04.mk (q0a (by repeat (first | (with_reducible first | exact HB.out | apply q02 | apply q00 | apply q01) | exact HB.out)) hb); have n2_ := q04.mk (hbox); have n3_ := q04.mk ((by rw [hg]; exact (q0e (by repeat (first | (with_reducible first | exact HB.out | apply q02 | apply q00 | apply q01) | exact HB.out))) : w.heap.size ≤ gb142)); have n4_ := q04.mk ((by rw [hg]; exact (q0e (by repeat (first | (with_reducible first | exact HB.out | apply q02 | apply q00 | apply q01) | exact HB.out))) : w.heap.size ≤ gb142)); clear HO_7; clear HB; have HO_7 := n0_; have HB := n1_; have BK142 := n2_; have GW142 := n3_; have GE142 := n4_; clear n0_ n1_ n2_ n3_ n4_; clear hb hbox hg; have hcz16_0 : w15.cell? ⟨gb142, 0, none⟩ = some (.string (⟨#[]⟩ : ByteArray)) := (q03 BK142.out 0).trans rfl; have hcz16_1 : w15.cell? ⟨gb142, 1, none⟩ = some (.int .u64 0) := (q03 BK142.out 1).trans rfl; have hcz16_2 : w15.cell? ⟨gb142, 2, none⟩ = some (.int .i64 0) := (q03 BK142.out 2).trans rfl; have hcz16_3 : w15.cell? ⟨gb142, 3, none⟩ = some (.string (⟨#[]⟩ : ByteArray)) := (q03 BK142.out 3).trans rfl; have hfz16_0 := q05 BK142.out 0; have hfz16_1 := q05 BK142.out 1; have hfz16_2 := q05 BK142.out 2; have hfz16_3 := q05 BK142.out 3; obtain ⟨Ao17, co17, eo17⟩ := Kd.R_slice HO_7.out; subst eo17))
         go_ret2
         exact ⟨_, by first | rfl | (simp [q0c, q0b] <;> rfl) | (simp [*, q0c, q0b] <;> rfl), by first | exact Kd.R_nil _ _ _ _ _ | exact Kd.N_nil _ _ _ _ _ | exact Kd.V_nil _ _ _ _ _ | exact Kd.Q_nil _ _ _ _ _ | exact Kd.S_nil _ _ _ _ _, by repeat (first | (with_reducible first | exact HB.out | apply q02 | apply q00 | apply q01 | refine q09 ?_ GE142.out) | exact HB.out)⟩
        ·rw [if_neg c13] at H
         have c13b0 : ((x7_1.length : Int) == 1024) = false := beq_eq_false_iff_ne.mpr c13
         have c13b1 : ((x7_1.length : Int) != 1024) = true := bne_iff_ne.mpr c13
         by_cases c18 : x7_1.length < 2932031007402
         ·rw [if_pos c18] at H
          have LMc18 := q04.mk c18
          clear c18
          obtain ⟨y143, hy143⟩ : ∃ y_ : List (S28), y_ = (x7_1 ++ [(⟨t137, t138, t139, t140⟩ : S28)]) := ⟨_, rfl⟩
          replace H : (block_Rows.l0 k1 a0 t132 y143 t137 (wrap64 (x9_1 + t141))) = some (r1, r2) := by first | (rw [hy143]; with_reducible exact H) | (have H2_ := (Option.bind_some _ _).symm.trans H; rw [hy143]; with_reducible exact H2_) | (have H2_ := (Option.bind_some _ _).symm.trans H; with_reducible exact H2_) | with_reducible exact H | (rw [hy143]; exact H) | exact H
          have Ny143 := q04.mk hy143
          clear hy143
          have H' := q04.mk H
          clear H
          try go_wp2_with (first | ((with_reducible refine q0h (f := 65) rfl ?_); refine q0s (some 31) rfl rfl Try.func65 (by kernel_rfl) rfl #[.string (t132.extract (x9_1 : Int).toNat t132.size), .string x8_1] rfl (by (try simp only [List.map_toArray, List.map_cons, List.map_nil]); first | done | rfl | (simp only [List.length_drop, List.length_take]; rfl)) ?_; (with_reducible refine (block_read.calls (t132.extract (x9_1 : Int).toNat t132.size) x8_1 t137 t138 t139 t140 t141 _ A8.out).mono ?_); rintro e w19 ⟨rfl, hb⟩; refine ⟨_, rfl, ?_⟩; have n0_ := q04.mk (Kd.R_below (by (with_reducible repeat (first | apply Kd.R_alloc | apply Kd.R_drewN | apply Kd.R_drew)); exact HO_7.out) hb); have n1_ := q04.mk (q0a (by repeat (first | (with_reducible first | exact HB.out | apply q02 | apply q00 | apply q01) | exact HB.out)) hb); clear HO_7; clear HB; have HO_7 := n0_; have HB := n1_; clear n0_ n1_; (try clear hb); (try clear hb2); (try clear hk); (try clear hi)) | ((with_reducible refine q0q (N := 10) rfl ?_); (try (refine q0v (by rfl) ?_; dsimp only)); refine q0r ?hg (N := 10) ?hd (cs := #[.string (⟨#[]⟩ : ByteArray), .int .u64 0, .int .i64 0, .string (⟨#[]⟩ : ByteArray)]) (t := 28) ?hr ?_; (case hd => rfl); (case hg => rfl); (case hr => first | (go_simp; done) | (go_simp; rfl)); intro gb142 hg w20 hbox hb; have n0_ := q04.mk (Kd.R_below (Kd.R_elderB (by (with_reducible repeat (first | apply Kd.R_alloc | apply Kd.R_drewN | apply Kd.R_drew)); exact HO_7.out) gb142 (Nat.le_of_eq hg.symm)) hb); have n1_ := q04.mk (q0a (by repeat (first | (with_reducible first | exact HB.out | apply q02 | apply q00 | apply q01) | exact HB.out)) hb); have n2_ := q04.mk (hbox); have n3_ := q04.mk ((by rw [hg]; exact (q0e (by repeat (first | (with_reducible first | exact HB.out | apply q02 | apply q00 | apply q01) | exact HB.out))) : w.heap.size ≤ gb142)); have n4_ := q04.mk ((by rw [hg]; exact (q0e (by repeat (first | (with_reducible first | exact HB.out | apply q02 | apply q00 | apply q01) | exact HB.out))) : w.heap.size ≤ gb142)); clear HO_7; clear HB; have HO_7 := n0_; have HB := n1_; have BK142 := n2_; have GW142 := n3_; have GE142 := n4_; clear n0_ n1_ n2_ n3_ n4_; clear hb hbox hg; have hcz21_0 : w20.cell? ⟨gb142, 0, none⟩ = some (.string (⟨#[]⟩ : ByteArray)) := (q03 BK142.out 0).trans rfl; have hcz21_1 : w20.cell? ⟨gb142, 1, none⟩ = some (.int .u64 0) := (q03 BK142.out 1).trans rfl; have hcz21_2 : w20.cell? ⟨gb142, 2, none⟩ = some (.int .i64 0) := (q03 BK142.out 2).trans rfl; have hcz21_3 : w20.cell? ⟨gb142, 3, none⟩ = some (.string (⟨#[]⟩ : ByteArray)) := (q03 BK142.out 3).trans rfl; have hfz21_0 := q05 BK142.out 0; have hfz21_1 := q05 BK142.out 1; have hfz21_2 := q05 BK142.out 2; have hfz21_3 := q05 BK142.out 3; obtain ⟨Ao22, co22, eo22⟩ := Kd.R_slice HO_7.out; subst eo22))
          have n0_ : q04 (Kd.R k28 28 ((((w20.setCell ⟨gb142, 0, none⟩ (.string t137)).setCell ⟨gb142, 1, none⟩ (.int .u64 t138)).setCell ⟨gb142, 2, none⟩ (.int .i64 t139)).setCell ⟨gb142, 3, none⟩ (.string t140)) w.heap.size (fun k_ => k_ ≠ gb142) (.slice Ao22 x7_1.length co22) x7_1) := ⟨by (with_reducible repeat (first | apply Kd.R_alloc | apply Kd.R_drewN | apply Kd.R_drew)); exact Kd.R_mono (Kd.R_far (p := ⟨gb142, 3, none⟩) (Kd.R_far (p := ⟨gb142, 2, none⟩) (Kd.R_far (p := ⟨gb142, 1, none⟩) (Kd.R_far (p := ⟨gb142, 0, none⟩) (Kd.R_mono HO_7.out (fun k_ hk => (⟨hk, hk.2⟩ : _ ∧ k_ ≠ gb142))) (fun _ hk => hk.2) (.string t137)) (fun _ hk => hk.2) (.int .u64 t138)) (fun _ hk => hk.2) (.int .i64 t139)) (fun _ hk => hk.2) (.string t140)) (fun _ hk => hk.1.2)⟩
          have n1_ : q04 (((((w20.setCell ⟨gb142, 0, none⟩ (.string t137)).setCell ⟨gb142, 1, none⟩ (.int .u64 t138)).setCell ⟨gb142, 2, none⟩ (.int .i64 t139)).setCell ⟨gb142, 3, none⟩ (.string t140)).heap[gb142]? = some (.cells #[.string t137, .int .u64 t138, .int .i64 t139, .string t140] 28 (0, 0))) := ⟨by (with_reducible repeat (first | refine q07 ?_ _ | refine q08 ?_ | refine q06 ?_ _)); refine q0l (cs := #[.string t137, .int .u64 t138, .int .i64 t139, .string (⟨#[]⟩ : ByteArray)]) ?_ 3 _ rfl; (with_reducible repeat (first | refine q07 ?_ _ | refine q08 ?_ | refine q06 ?_ _)); refine q0l (cs := #[.string t137, .int .u64 t138, .int .i64 0, .string (⟨#[]⟩ : ByteArray)]) ?_ 2 _ rfl; (with_reducible repeat (first | refine q07 ?_ _ | refine q08 ?_ | refine q06 ?_ _)); refine q0l (cs := #[.string t137, .int .u64 0, .int .i64 0, .string (⟨#[]⟩ : ByteArray)]) ?_ 1 _ rfl; (with_reducible repeat (first | refine q07 ?_ _ | refine q08 ?_ | refine q06 ?_ _)); refine q0l (cs := #[.string (⟨#[]⟩ : ByteArray), .int .u64 0, .int .i64 0, .string (⟨#[]⟩ : ByteArray)]) ?_ 0 _ rfl; (with_reducible repeat (first | refine q07 ?_ _ | refine q08 ?_ | refine q06 ?_ _)); exact BK142.out⟩
          have n2_ : q04 (Below w.heap.size w ((((w20.setCell ⟨gb142, 0, none⟩ (.string t137)).setCell ⟨gb142, 1, none⟩ (.int .u64 t138)).setCell ⟨gb142, 2, none⟩ (.int .i64 t139)).setCell ⟨gb142, 3, none⟩ (.string t140))) := ⟨by repeat (first | (with_reducible first | exact HB.out | apply q02 | apply q00 | apply q01 | refine q09 ?_ GE142.out) | exact HB.out)⟩
          (try clear HO_7)
          (try clear BK142)
          (try clear HB)
          generalize ((((w20.setCell ⟨gb142, 0, none⟩ (.string t137)).setCell ⟨gb142, 1, none⟩ (.int .u64 t138)).setCell ⟨gb142, 2, none⟩ (.int .i64 t139)).setCell ⟨gb142, 3, none⟩ (.string t140)) = w23 at n0_ n1_ n2_ ⊢
          have HO_7 := n0_
          have BK142 := n1_
          have HB := n2_
          clear n0_ n1_ n2_
          have n0_ := q04.mk (Kd.R_drew HO_7.out)
          have n1_ := q04.mk (q08 BK142.out)
          have n2_ := q04.mk (q01 HB.out)
          clear HO_7
          clear BK142
          clear HB
          have HO_7 := n0_
          have BK142 := n1_
          have HB := n2_
          clear n0_ n1_ n2_
          refine start_ (n := 12) (S := fun w' => w'.cell? ⟨gb142, 0, none⟩ = some (.string t137) ∧ w'.cell? ⟨gb142, 1, none⟩ = some (.int .u64 t138) ∧ w'.cell? ⟨gb142, 2, none⟩ = some (.int .i64 t139) ∧ w'.cell? ⟨gb142, 3, none⟩ = some (.string t140)) (ds := []) #[false, false, false, false, false, false, false, false, false, false, false, false] (by kernel_rfl) rfl rfl ⟨(q03 BK142.out 0).trans rfl, (q03 BK142.out 1).trans rfl, (q03 BK142.out 2).trans rfl, (q03 BK142.out 3).trans rfl⟩ (fun hHeld => ?_); refine q16 block_Rows.tab11 block_Rows.bits11 (fun HT_ HW_ => ?_)
          generalize w23.drew = w24 at HO_7 BK142 HB hHeld ⊢
          refine pure_ (i := 0) (N := some 41) (v := ?_) (a' := ?_) #[true, false, false, false, false, false, false, false, false, false, false, false] rfl rfl (q0j HT_.out (by kernel_rfl)) (fun _ _ _ h => h) (Or.inl ⟨by rfl, ?_⟩) ?_ ?_
          rotate_left
          ·intro w'
           go_simp
           with_reducible rfl
          rotate_left
          ·simp only [Act.put, qa20, qb20, qc20, i64_w, i32_w]
           rfl
          refine pure_ (i := 4) (N := some 45) (v := ?_) (a' := ?_) #[true, false, false, false, true, false, false, false, false, false, false, false] rfl rfl (q0j HT_.out (by kernel_rfl)) (fun _ _ _ h => h) (Or.inl ⟨by rfl, ?_⟩) ?_ ?_
          rotate_left
          ·intro w'
           go_simp
           with_reducible rfl
          rotate_left
          ·simp only [Act.put, qa20, qb20, qc20, i64_w, i32_w]
           rfl
          refine pure_ (i := 6) (N := some 47) (v := ?_) (a' := ?_) #[true, false, false, false, true, false, true, false, false, false, false, false] rfl rfl (q0j HT_.out (by kernel_rfl)) (fun _ _ _ h => h) (Or.inl ⟨by rfl, ?_⟩) ?_ ?_
          rotate_left
          ·intro w'
           go_simp
           with_reducible rfl
          rotate_left
          ·simp only [Act.put, qa20, qb20, qc20, i64_w, i32_w]
           rfl
          refine pure_ (i := 7) (N := some 48) (v := ?_) (a' := ?_) #[true, false, false, false, true, false, true, true, false, false, false, false] rfl rfl (q0j HT_.out (by kernel_rfl)) (fun _ _ _ h => h) (Or.inl ⟨by rfl, ?_⟩) ?_ ?_
          rotate_left
          ·intro w'
           go_simp
           with_reducible rfl
          rotate_left
          ·simp only [Act.put, qa20, qb20, qc20, i64_w, i32_w]
           rfl
          refine pure_ (i := 8) (N := some 49) (v := ?_) (a' := ?_) #[true, false, false, false, true, false, true, true, true, false, false, false] rfl rfl (q0j HT_.out (by kernel_rfl)) (fun _ _ _ h => h) (Or.inl ⟨by rfl, ?_⟩) ?_ ?_
          rotate_left
          ·intro w'
           go_simp
           with_reducible rfl
          rotate_left
          ·simp only [Act.put, qa20, qb20, qc20, i64_w, i32_w]
           rfl
          refine take_ (i := 1) (N := some 42) (v := ?_) (a' := ?_) #[true, true, false, false, true, false, true, true, true, false, false, false] rfl rfl (q0w HT_.out HW_.out (by kernel_rfl)) (fun _ _ _ h => h) (Or.inl ⟨by rfl, ?_⟩) hHeld ?_ ?_
          rotate_left
          ·rintro w' ⟨s0, s1, s2, s3⟩
           go_simp
           with_reducible rfl
          rotate_left
          ·simp only [Act.put, qa20, qb20, qc20, i64_w, i32_w]
           rfl
          refine take_ (i := 5) (N := some 46) (v := ?_) (a' := ?_) #[true, true, false, false, true, true, true, true, true, false, false, false] rfl rfl (q0w HT_.out HW_.out (by kernel_rfl)) (fun _ _ _ h => h) (Or.inl ⟨by rfl, ?_⟩) hHeld ?_ ?_
          rotate_left
          ·rintro w' ⟨s0, s1, s2, s3⟩
           go_simp
           with_reducible rfl
          rotate_left
          ·simp only [Act.put, qa20, qb20, qc20, i64_w, i32_w]
           rfl
          refine one_ (i := 2) (N := some 43) #[true, true, true, false, true, true, true, true, true, false, false, false] rfl rfl (q13 HT_.out (by kernel_rfl)) (by decide) (fun K hK => ?_)
          refine value_ (w1 := ?_) (v := ?_) (by rfl) rfl ?_ ?_
          rotate_left 2
          ·go_simp
           constructor
           ·rfl
           ·rfl
          refine hK.out _ _ ⟨(q03 (q06 BK142.out _) 0).trans rfl, (q03 (q06 BK142.out _) 1).trans rfl, (q03 (q06 BK142.out _) 2).trans rfl, (q03 (q06 BK142.out _) 3).trans rfl⟩ (fun hHeld => ?_)
          clear hK K
          refine norm_ (a' := ?_) ?_ ?_
          rotate_left
          ·show Act.put _ (some 43) _ = _
           simp only [Act.put, qa20, qb20, qc20, i64_w, i32_w]
           rfl
          refine one_ (i := 3) (N := some 44) #[true, true, true, true, true, true, true, true, true, false, false, false] rfl rfl (q13 HT_.out (by kernel_rfl)) (by decide) (fun K hK => ?_)
          refine Kd.R_append_step k28 (w0 := w) w.heap.size (by rfl) (.tmp 41) (.tmp 43) 32 28 (.agg #[(.string ⟨#[]⟩), (.int .u64 0), (.int .i64 0), (.string ⟨#[]⟩)]) 48 rfl Try.underlying32 info28 rfl (by decide) (by omega) (.slice Ao22 x7_1.length co22) x7_1 (⟨t137, t138, t139, t140⟩ : S28) [.string t137, .int .u64 t138, .int .i64 t139, .string t140] (fun k_ => k_ ≠ gb142) (fun _ => False) rfl rfl ?aP (fun _ hk => hk.elim) ?aF ?aO ?aB ?aS ?aL ?_
          (case aP => exact k28_mkM _ _ _ (⟨t137, t138, t139, t140⟩ : S28))
          (case aB => exact (by repeat (first | (with_reducible first | exact HB.out | apply q02 | apply q00 | apply q01 | refine q09 ?_ GE142.out) | exact HB.out)))
          (case aF => exact (fun k_ hk => Kd.freshB (g := gb142) (o := .cells #[.string t137, .int .u64 t138, .int .i64 t139, .string t140] 28 (0, 0)) (by (with_reducible repeat (first | refine q07 ?_ _ | refine q08 ?_ | refine q06 ?_ _)); exact BK142.out) k_ hk))
          (case aO => exact (by (with_reducible repeat (first | apply Kd.R_alloc | apply Kd.R_drewN | apply Kd.R_drew)); exact HO_7.out))
          (case aS => exact (q0e (by repeat (first | (with_reducible first | exact HB.out | apply q02 | apply q00 | apply q01 | refine q09 ?_ GE142.out) | exact HB.out))))
          (case aL => have := LMc18.out; omega)
          intro v144 w25 ho hb hg hat
          rw [← Ny143.out] at ho
          have n0_ := q04.mk (blk_grown (g := gb142) (o := .cells #[.string t137, .int .u64 t138, .int .i64 t139, .string t140] 28 (0, 0)) (by (with_reducible repeat (first | refine q07 ?_ _ | refine q08 ?_ | refine q06 ?_ _)); exact BK142.out) hg (Kd.R_away HO_7.out (fun _ hk => hk)))
          have n1_ := q04.mk (hb)
          have n2_ := q04.mk (ho)
          clear BK142
          clear HB
          clear HO_7
          have BK142 := n0_
          have HB := n1_
          have HO145 := n2_
          clear n0_ n1_ n2_
          clear ho hb hg hat
          refine hK.out _ _ ⟨(q03 BK142.out 0).trans rfl, (q03 BK142.out 1).trans rfl, (q03 BK142.out 2).trans rfl, (q03 BK142.out 3).trans rfl⟩ (fun hHeld => ?_)
          clear hK K
          refine norm_ (a' := ?_) ?_ ?_
          rotate_left
          ·show Act.put _ (some 44) _ = _
           simp only [Act.put, qa20, qb20, qc20, i64_w, i32_w]
           rfl
          refine pure_ (i := 9) (N := some 7) (v := ?_) (a' := ?_) #[true, true, true, true, true, true, true, true, true, true, false, false] rfl rfl (q0j HT_.out (by kernel_rfl)) (fun _ _ _ h => h) (Or.inl ⟨by rfl, ?_⟩) ?_ ?_
          rotate_left
          ·intro w'
           go_simp
           with_reducible rfl
          rotate_left
          ·simp only [Act.put, qa20, qb20, qc20, i64_w, i32_w]
           rfl
          refine pure_ (i := 10) (N := some 8) (v := ?_) (a' := ?_) #[true, true, true, true, true, true, true, true, true, true, true, false] rfl rfl (q0j HT_.out (by kernel_rfl)) (fun _ _ _ h => h) (Or.inl ⟨by rfl, ?_⟩) ?_ ?_
          rotate_left
          ·intro w'
           go_simp
           with_reducible rfl
          rotate_left
          ·simp only [Act.put, qa20, qb20, qc20, i64_w, i32_w]
           rfl
          refine pure_ (i := 11) (N := some 9) (v := ?_) (a' := ?_) #[true, true, true, true, true, true, true, true, true, true, true, true] rfl rfl (q0j HT_.out (by kernel_rfl)) (fun _ _ _ h => h) (Or.inl ⟨by rfl, ?_⟩) ?_ ?_
          rotate_left
          ·intro w'
           go_simp
           with_reducible rfl
          rotate_left
          ·simp only [Act.put, qa20, qb20, qc20, i64_w, i32_w]
           rfl
          refine done_ (q1u HT_.out (by kernel_rfl)) ?_
          try go_wp2
          go_roundg k1
          case measure => have := HK1.out; omega
          case rel => exact ⟨(y143), (t137), (wrap64 (x9_1 + t141)), (by first | rfl | (simp; done) | (simp [*]; done)), (by first | rfl | (simp; done) | (simp [*]; done)), H', ⟨by have := HK1.out; omega⟩, ⟨by (with_reducible repeat (first | apply Kd.R_alloc | apply Kd.R_drewN | apply Kd.R_drew)); exact Kd.R_mono HO145.out (fun _ hk => trivial)⟩, ⟨by repeat (first | (with_reducible first | exact HB.out | apply q02 | apply q00 | apply q01 | refine q09 ?_ GE142.out) | exact HB.out)⟩⟩
         ·rw [if_neg c18] at H
          exact absurd H (by simp)
      ·rw [if_neg c7] at H
       exact absurd H (by simp)
     ·rw [if_neg c6] at H
      exact absurd H (by simp)
    ·rw [if_neg c5] at H
     have c5b0 : decide (x9_1 < (t132.size : Int)) = false := decide_eq_false c5
     clear c5
     obtain ⟨ji26, hji26⟩ : ∃ j_ : Int, (wrap64 ((a0.size : Int) - 4)) = j_ := ⟨_, rfl⟩
     replace H : (if 0 ≤ (ji26) then (if (ji26) ≤ (a0.size : Int) then ((block_whole.f (a0.extract ((ji26) : Int).toNat a0.size)).bind fun t146 => ((block_Build.f x7_1 t146).bind fun bt147 => (if bt147.2 = 0 then (if bt147.1.toList = a0.toList then (some (x7_1, 0)) else (some (([] : List (S28)), 7))) else (some (([] : List (S28)), 7))))) else (none)) else (none)) = some (r1, r2) := by first | (rw [hji26] at H; exact H) | (simp only [hji26] at H ⊢; exact H)
     have hji26w : (IntKind.i64.wrap ((a0.size : Int) - 4)) = ji26 := (i64_w _).trans hji26
     by_cases c27 : 0 ≤ (ji26)
     ·rw [if_pos c27] at H
      have c27b0 := eq_true c27
      have c27b1 : decide (0 ≤ (ji26)) = true := decide_eq_true c27
      clear c27
      by_cases c28 : (ji26) ≤ (a0.size : Int)
      ·rw [if_pos c28] at H
       have c28b0 := eq_true c28
       have c28b1 : decide ((ji26) ≤ (a0.size : Int)) = true := decide_eq_true c28
       clear c28
       replace H := Option.bind_eq_some_iff.mp H
       obtain ⟨t146, A290, H⟩ := H
       replace H : ((block_Build.f x7_1 t146).bind fun bt147 => (if bt147.2 = 0 then (if bt147.1.toList = a0.toList then (some (x7_1, 0)) else (some (([] : List (S28)), 7))) else (some (([] : List (S28)), 7)))) = some (r1, r2) := H
       have A29 := q04.mk A290
       clear A290
       replace H := Option.bind_eq_some_iff.mp H
       obtain ⟨⟨t147, t148⟩, A300, H⟩ := H
       replace H : (if t148 = 0 then (if t147.toList = a0.toList then (some (x7_1, 0)) else (some (([] : List (S28)), 7))) else (some (([] : List (S28)), 7))) = some (r1, r2) := H
       have A30 := q04.mk A300
       clear A300
       by_cases c31 : t148 = 0
       ·rw [if_pos c31] at H
        have c31b0 : (t148 == 0) = true := beq_iff_eq.mpr c31
        have c31b1 : (t148 != 0) = false := bne_eq_false_iff_eq.mpr c31
        clear c31
        by_cases c32 : t147.toList = a0.toList
        ·rw [if_pos c32] at H
         have c32b0 : (t147.toList == a0.toList) = true := beq_iff_eq.mpr c32
         have c32b1 : (t147.toList != a0.toList) = false := bne_eq_false_iff_eq.mpr c32
         clear c32
         simp only [Option.some.injEq, Prod.mk.injEq] at H
         obtain ⟨rfl, rfl⟩ := H
         go_wp2_with (first | ((with_reducible refine q0h (f := 66) rfl ?_); refine q0s (some 57) rfl rfl Try.func66 (by kernel_rfl) rfl #[.string (a0.extract ((ji26) : Int).toNat a0.size)] rfl (by (try simp only [List.map_toArray, List.map_cons, List.map_nil]); first | done | (simp only [hji26]; rfl) | rfl | (simp only [List.length_drop, List.length_take]; rfl)) ?_; (with_reducible refine (block_whole.calls (a0.extract ((ji26) : Int).toNat a0.size) t146 _ A29.out).mono ?_); rintro e w' ⟨rfl, ⟨nd, rfl⟩⟩; refine ⟨_, rfl, ?_⟩; obtain ⟨Ao33, co33, eo33⟩ := Kd.R_slice HO_7.out; subst eo33) | ((with_reducible refine q0h (f := 38) rfl ?_); refine q0s (some 58) rfl rfl Try.func38 (by kernel_rfl) rfl #[.slice Ao33 x7_1.length co33, .int .i64 t146] rfl (by (try simp only [List.map_toArray, List.map_cons, List.map_nil]); first | done | rfl | (simp only [List.length_drop, List.length_take]; rfl)) ?_; (with_reducible refine (block_Build.calls _ _ x7_1 t146 t147 t148 _ ?side1 ?side2 A30.out).mono ?_); (case side1 => repeat (first | exact (Kd.R_reads' HO_7.out).2.2 | (with_reducible refine Kd.C_alloc ?_ _) | (with_reducible refine Kd.C_drewN ?_ _) | (with_reducible refine Kd.C_drew ?_))); (case side2 => exact (Kd.R_reads' HO_7.out).2.1); rintro e w34 ⟨rfl, hb⟩; refine ⟨_, rfl, ?_⟩; have n0_ := q04.mk (Kd.R_below (by (with_reducible repeat (first | apply Kd.R_alloc | apply Kd.R_drewN | apply Kd.R_drew)); exact HO_7.out) hb); have n1_ := q04.mk (q0a (by repeat (first | (with_reducible first | exact HB.out | apply q02 | apply q00 | apply q01) | exact HB.out)) hb); clear HO_7; clear HB; have HO_7 := n0_; have HB := n1_; clear n0_ n1_; (try clear hb); (try clear hb2); (try clear hk); (try clear hi)))
         go_ret2
         exact ⟨_, by first | rfl | (simp [q0c, q0b] <;> rfl) | (simp only [← hji26]; first | rfl | (simp [q0c, q0b] <;> rfl)) | (simp [*, q0c, q0b] <;> rfl), by (with_reducible repeat (first | apply Kd.R_alloc | apply Kd.R_drewN | apply Kd.R_drew)); exact HO_7.out, by repeat (first | (with_reducible first | exact HB.out | apply q02 | apply q00 | apply q01) | exact HB.out)⟩
        ·rw [if_neg c32] at H
         have c32b0 : (t147.toList == a0.toList) = false := beq_eq_false_iff_ne.mpr c32
         have c32b1 : (t147.toList != a0.toList) = true := bne_iff_ne.mpr c32
         simp only [Option.some.injEq, Prod.mk.injEq] at H
         obtain ⟨rfl, rfl⟩ := H
         go_wp2_with (first | ((with_reducible refine q0h (f := 66) rfl ?_); refine q0s (some 57) rfl rfl Try.func66 (by kernel_rfl) rfl #[.string (a0.extract ((ji26) : Int).toNat a0.size)] rfl (by (try simp only [List.map_toArray, List.map_cons, List.map_nil]); first | done | (simp only [hji26]; rfl) | rfl | (simp only [List.length_drop, List.length_take]; rfl)) ?_; (with_reducible refine (block_whole.calls (a0.extract ((ji26) : Int).toNat a0.size) t146 _ A29.out).mono ?_); rintro e w' ⟨rfl, ⟨nd, rfl⟩⟩; refine ⟨_, rfl, ?_⟩; obtain ⟨Ao35, co35, eo35⟩ := Kd.R_slice HO_7.out; subst eo35) | ((with_reducible refine q0h (f := 38) rfl ?_); refine q0s (some 58) rfl rfl Try.func38 (by kernel_rfl) rfl #[.slice Ao35 x7_1.length co35, .int .i64 t146] rfl (by (try simp only [List.map_toArray, List.map_cons, List.map_nil]); first | done | rfl | (simp only [List.length_drop, List.length_take]; rfl)) ?_; (with_reducible refine (block_Build.calls _ _ x7_1 t146 t147 t148 _ ?side1 ?side2 A30.out).mono ?_); (case side1 => repeat (first | exact (Kd.R_reads' HO_7.out).2.2 | (with_reducible refine Kd.C_alloc ?_ _) | (with_reducible refine Kd.C_drewN ?_ _) | (with_reducible refine Kd.C_drew ?_))); (case side2 => exact (Kd.R_reads' HO_7.out).2.1); rintro e w36 ⟨rfl, hb⟩; refine ⟨_, rfl, ?_⟩; have n0_ := q04.mk (Kd.R_below (by (with_reducible repeat (first | apply Kd.R_alloc | apply Kd.R_drewN | apply Kd.R_drew)); exact HO_7.out) hb); have n1_ := q04.mk (q0a (by repeat (first | (with_reducible first | exact HB.out | apply q02 | apply q00 | apply q01) | exact HB.out)) hb); clear HO_7; clear HB; have HO_7 := n0_; have HB := n1_; clear n0_ n1_; (try clear hb); (try clear hb2); (try clear hk); (try clear hi)))
         go_ret2
         exact ⟨_, by first | rfl | (simp [q0c, q0b] <;> rfl) | (simp only [← hji26]; first | rfl | (simp [q0c, q0b] <;> rfl)) | (simp [*, q0c, q0b] <;> rfl), by first | exact Kd.R_nil _ _ _ _ _ | exact Kd.N_nil _ _ _ _ _ | exact Kd.V_nil _ _ _ _ _ | exact Kd.Q_nil _ _ _ _ _ | exact Kd.S_nil _ _ _ _ _, by repeat (first | (with_reducible first | exact HB.out | apply q02 | apply q00 | apply q01) | exact HB.out)⟩
       ·rw [if_neg c31] at H
        have c31b0 : (t148 == 0) = false := beq_eq_false_iff_ne.mpr c31
        have c31b1 : (t148 != 0) = true := bne_iff_ne.mpr c31
        simp only [Option.some.injEq, Prod.mk.injEq] at H
        obtain ⟨rfl, rfl⟩ := H
        go_wp2_with (first | ((with_reducible refine q0h (f := 66) rfl ?_); refine q0s (some 57) rfl rfl Try.func66 (by kernel_rfl) rfl #[.string (a0.extract ((ji26) : Int).toNat a0.size)] rfl (by (try simp only [List.map_toArray, List.map_cons, List.map_nil]); first | done | (simp only [hji26]; rfl) | rfl | (simp only [List.length_drop, List.length_take]; rfl)) ?_; (with_reducible refine (block_whole.calls (a0.extract ((ji26) : Int).toNat a0.size) t146 _ A29.out).mono ?_); rintro e w' ⟨rfl, ⟨nd, rfl⟩⟩; refine ⟨_, rfl, ?_⟩; obtain ⟨Ao37, co37, eo37⟩ := Kd.R_slice HO_7.out; subst eo37) | ((with_reducible refine q0h (f := 38) rfl ?_); refine q0s (some 58) rfl rfl Try.func38 (by kernel_rfl) rfl #[.slice Ao37 x7_1.length co37, .int .i64 t146] rfl (by (try simp only [List.map_toArray, List.map_cons, List.map_nil]); first | done | rfl | (simp only [List.length_drop, List.length_take]; rfl)) ?_; (with_reducible refine (block_Build.calls _ _ x7_1 t146 t147 t148 _ ?side1 ?side2 A30.out).mono ?_); (case side1 => repeat (first | exact (Kd.R_reads' HO_7.out).2.2 | (with_reducible refine Kd.C_alloc ?_ _) | (with_reducible refine Kd.C_drewN ?_ _) | (with_reducible refine Kd.C_drew ?_))); (case side2 => exact (Kd.R_reads' HO_7.out).2.1); rintro e w38 ⟨rfl, hb⟩; refine ⟨_, rfl, ?_⟩; have n0_ := q04.mk (Kd.R_below (by (with_reducible repeat (first | apply Kd.R_alloc | apply Kd.R_drewN | apply Kd.R_drew)); exact HO_7.out) hb); have n1_ := q04.mk (q0a (by repeat (first | (with_reducible first | exact HB.out | apply q02 | apply q00 | apply q01) | exact HB.out)) hb); clear HO_7; clear HB; have HO_7 := n0_; have HB := n1_; clear n0_ n1_; (try clear hb); (try clear hb2); (try clear hk); (try clear hi)))
        go_ret2
        exact ⟨_, by first | rfl | (simp [q0c, q0b] <;> rfl) | (simp only [← hji26]; first | rfl | (simp [q0c, q0b] <;> rfl)) | (simp [*, q0c, q0b] <;> rfl), by first | exact Kd.R_nil _ _ _ _ _ | exact Kd.N_nil _ _ _ _ _ | exact Kd.V_nil _ _ _ _ _ | exact Kd.Q_nil _ _ _ _ _ | exact Kd.S_nil _ _ _ _ _, by repeat (first | (with_reducible first | exact HB.out | apply q02 | apply q00 | apply q01) | exact HB.out)⟩
      ·rw [if_neg c28] at H
       exact absurd H (by simp)
     ·rw [if_neg c27] at H
      exact absurd H (by simp)
 ·replace c3 := Bool.eq_false_iff.mpr c3
  subst c3
  have H1 : (some (([] : List (S28)), 7)) = some (r1, r2) := by rw [if_neg (show ¬ (false = true) by decide)] at H; exact H
  clear H
  have H := H1
  clear H1
  simp only [Option.some.injEq, Prod.mk.injEq] at H
  obtain ⟨rfl, rfl⟩ := H
  go_enter Try.func42, Try.ntmps42
  go_wp2_with (first | ((with_reducible refine q0h (f := 64) rfl ?_); refine q0s (some 16) rfl rfl Try.func64 (by kernel_rfl) rfl #[.string a0] rfl (by (try simp only [List.map_toArray, List.map_cons, List.map_nil]); first | done | rfl | (simp only [List.length_drop, List.length_take]; rfl)) ?_; (with_reducible refine (block_parts.calls k a0 t132 t133 false _ A2.out).mono ?_); rintro e w39 ⟨v135, rfl, ho0, hb⟩; refine ⟨_, rfl, ?_⟩; have n0_ := q04.mk (Kd.R_lower ho0 (q0e (by repeat (first | (with_reducible first | exact HB.out | apply q02 | apply q00 | apply q01) | exact HB.out)))); have n1_ := q04.mk (q0a (by repeat (first | (with_reducible first | exact HB.out | apply q02 | apply q00 | apply q01) | exact HB.out)) hb); clear HB; have HO136 := n0_; have HB := n1_; clear n0_ n1_; (try clear hb); (try clear hb2); (try clear hk); (try clear hi); (try clear ho0)))
  go_ret2
  exact ⟨_, by first | rfl | (simp [q0c, q0b] <;> rfl) | (simp [*, q0c, q0b] <;> rfl), by first | exact Kd.R_nil _ _ _ _ _ | exact Kd.N_nil _ _ _ _ _ | exact Kd.V_nil _ _ _ _ _ | exact Kd.Q_nil _ _ _ _ _ | exact Kd.S_nil _ _ _ _ _, by repeat (first | (with_reducible first | exact HB.out | apply q02 | apply q00 | apply q01) | exact HB.out)⟩
def frame_seal.f (a0 : ByteArray) : Option (ByteArray) := (sum_Of.f a0).bind fun t149 => (some (strOfNums (([(t149) % 256, (t149 / 256) % 256, (t149 / 65536) % 256, (t149 / 16777216) % 256] : List Int))))
set_option maxHeartbeats 8000000 in
set_option maxRecDepth 100000 in
theorem frame_seal.calls (a0 : ByteArray) (r : ByteArray) (w : World) (h : frame_seal.f a0 = some r) :
  Calls Try.prog 57 #[.string a0] w fun e w' => e = .returned (.string r) ∧ Below w.heap.size w w' := by
 have HB := q04.mk (Below.refl w.heap.size w)
 have H : ((sum_Of.f a0).bind fun t149 => (some (strOfNums (([(t149) % 256, (t149 / 256) % 256, (t149 / 65536) % 256, (t149 / 16777216) % 256] : List Int))))) = some r := h
 clear h
 replace H := Option.bind_eq_some_iff.mp H
 obtain ⟨t149, A20, H⟩ := H
 replace H : (some (strOfNums (([(t149) % 256, (t149 / 256) % 256, (t149 / 65536) % 256, (t149 / 16777216) % 256] : List Int)))) = some r := H
 have A2 := q04.mk A20
 clear A20
 obtain ⟨y150, hy150⟩ : ∃ y_ : List Int, y_ = (([(t149) % 256, (t149 / 256) % 256, (t149 / 65536) % 256, (t149 / 16777216) % 256] : List Int)) := ⟨_, rfl⟩
 replace H : (some (strOfNums y150)) = some r := by first | (rw [hy150]; with_reducible exact H) | (have H2_ := (Option.bind_some _ _).symm.trans H; rw [hy150]; with_reducible exact H2_) | (have H2_ := (Option.bind_some _ _).symm.trans H; with_reducible exact H2_) | with_reducible exact H | (rw [hy150]; exact H) | exact H
 have Ny150 := q04.mk hy150
 clear hy150
 obtain rfl := Option.some.inj H
 go_enter Try.func57, Try.ntmps57
 go_wp2_with (first | ((with_reducible refine q0h (f := 62) rfl ?_); refine q0s (some 5) rfl rfl Try.func62 (by kernel_rfl) rfl #[.string a0] rfl (by (try simp only [List.map_toArray, List.map_cons, List.map_nil]); first | done | rfl | (simp only [List.length_drop, List.length_take]; rfl)) ?_; (with_reducible refine (sum_Of.calls a0 t149 _ A2.out).mono ?_); rintro e w3 ⟨rfl, hb⟩; refine ⟨_, rfl, ?_⟩; have n0_ := q04.mk (q0a (by repeat (first | (with_reducible first | exact HB.out | apply q02 | apply q00 | apply q01) | exact HB.out)) hb); clear HB; have HB := n0_; clear n0_; (try clear hb); (try clear hb2); (try clear hk); (try clear hi)) | ((with_reducible refine q0q (N := 17) rfl ?_); refine Kd.R_lit (Kd.int .u8) _ 5 ?hg (N := 17) ?hd (xs := ([(t149) % 256, (t149 / 256) % 256, (t149 / 65536) % 256, (t149 / 16777216) % 256] : List Int)) (inner := [.int .u8 ((t149) % 256), .int .u8 ((t149 / 256) % 256), .int .u8 ((t149 / 65536) % 256), .int .u8 ((t149 / 16777216) % 256)]) (ok := fun _ => True) (okp := fun _ => True) ?hr ?hp (fun _ hk => hk) trivial (Below.refl _ _) (Nat.le_refl _) (by simp) ?_; (case hd => rfl); (case hg => rfl); (case hr => first | (go_simp; done) | (go_simp; rfl)); (case hp => exact (Reps.one (show Kd.M (Kd.int .u8) _ _ _ ((t149) % 256) [.int .u8 ((t149) % 256)] from rfl) (Reps.one (show Kd.M (Kd.int .u8) _ _ _ ((t149 / 256) % 256) [.int .u8 ((t149 / 256) % 256)] from rfl) (Reps.one (show Kd.M (Kd.int .u8) _ _ _ ((t149 / 65536) % 256) [.int .u8 ((t149 / 65536) % 256)] from rfl) (Reps.one (show Kd.M (Kd.int .u8) _ _ _ ((t149 / 16777216) % 256) [.int .u8 ((t149 / 16777216) % 256)] from rfl) (Reps.none _ _)))))); intro v151 w4 ho5 hb hg_ hnew_; clear hg_ hnew_; (first | rw [← Ny150.out] at ho5 | (simp only [Int.reduceToNat] at ho5; rw [← Ny150.out] at ho5)); have n0_ := q04.mk (Kd.R_lower ho5 (q0e (by repeat (first | (with_reducible first | exact HB.out | apply q02 | apply q00 | apply q01) | exact HB.out)))); have n1_ := q04.mk (q0a (by repeat (first | (with_reducible first | exact HB.out | apply q02 | apply q00 | apply q01) | exact HB.out)) hb); clear HB; have HO152 := n0_; have HB := n1_; clear n0_ n1_; clear hb ho5; have hcv6 := q14 (P := Try.prog) Try.underlying55 Try.underlying5 Try.underlying9 (Kd.own_of_R HO152.out)))
 go_ret
 exact ⟨by first | rfl | (simp [q0c, q0b] <;> rfl) | (simp [*, q0c, q0b] <;> rfl), by repeat (first | (with_reducible first | exact HB.out | apply q02 | apply q00 | apply q01) | exact HB.out)⟩
def frame_Put.f (k : Nat) (a0 : ByteArray) : Option (ByteArray × Int) := if (a0.size : Int) > 65536 then (some ((⟨#[]⟩ : ByteArray), 3)) else ((code_PutField.f k a0).bind fun t153 => ((frame_seal.f t153).bind fun t154 => (if t153.size + t154.size ≤ 9223372036854775807 then (some (t153 ++ t154, 0)) else (none))))
theorem frame_Put.mono : ∀ a0 k, LeO (frame_Put.f k a0) (frame_Put.f (k + 1) a0) := by
 intro a0 k
 unfold frame_Put.f
 repeat' first
   | (with_reducible exact code_PutField.mono _ _)
   | (with_reducible exact LeO.refl _)
   | (with_reducible exact LeO.none _)
   | (with_reducible refine LeO.ite ?_ ?_)
   | (with_reducible refine LeO.bind ?_ (fun _ => ?_))
   | exact code_PutField.mono _ _
   | exact LeO.none _
   | refine LeO.ite ?_ ?_
   | refine LeO.bind ?_ (fun _ => ?_)
set_option maxHeartbeats 8000000 in
set_option maxRecDepth 100000 in
theorem frame_Put.calls (k : Nat) (a0 : ByteArray) (r1 : ByteArray) (r2 : Int) (w : World) (h : frame_Put.f k a0 = some (r1, r2)) :
  Calls Try.prog 33 #[.string a0] w fun e w' => e = .returned (.tuple #[.string r1, .int .i64 r2]) ∧ Below w.heap.size w w' := by
 have HB := q04.mk (Below.refl w.heap.size w)
 have H : (if (a0.size : Int) > 65536 then (some ((⟨#[]⟩ : ByteArray), 3)) else ((code_PutField.f k a0).bind fun t153 => ((frame_seal.f t153).bind fun t154 => (if t153.size + t154.size ≤ 9223372036854775807 then (some (t153 ++ t154, 0)) else (none))))) = some (r1, r2) := h
 clear h
 by_cases c2 : (a0.size : Int) > 65536
 ·rw [if_pos c2] at H
  have c2b0 : decide (65536 < (a0.size : Int)) = true := decide_eq_true c2
  have c2b1 : decide (65536 < a0.size) = true := decide_eq_true (by omega)
  clear c2
  simp only [Option.some.injEq, Prod.mk.injEq] at H
  obtain ⟨rfl, rfl⟩ := H
  go_enter Try.func33, Try.ntmps33
  go_wp2
  go_ret2
  exact ⟨by first | rfl | (simp [q0c, q0b] <;> rfl) | (simp [*, q0c, q0b] <;> rfl), by repeat (first | (with_reducible first | exact HB.out | apply q02 | apply q00 | apply q01) | exact HB.out)⟩
 ·rw [if_neg c2] at H
  have c2b0 : decide (65536 < (a0.size : Int)) = false := decide_eq_false c2
  have c2b1 : decide (65536 < a0.size) = false := decide_eq_false (by omega)
  clear c2
  replace H := Option.bind_eq_some_iff.mp H
  obtain ⟨t153, A30, H⟩ := H
  replace H : ((frame_seal.f t153).bind fun t154 => (if t153.size + t154.size ≤ 9223372036854775807 then (some (t153 ++ t154, 0)) else (none))) = some (r1, r2) := H
  have A3 := q04.mk A30
  clear A30
  replace H := Option.bind_eq_some_iff.mp H
  obtain ⟨t154, A40, H⟩ := H
  replace H : (if t153.size + t154.size ≤ 9223372036854775807 then (some (t153 ++ t154, 0)) else (none)) = some (r1, r2) := H
  have A4 := q04.mk A40
  clear A40
  by_cases c5 : t153.size + t154.size ≤ 9223372036854775807
  ·rw [if_pos c5] at H
   have c5b0 := eq_true c5
   have c5b1 : decide (t153.size + t154.size ≤ 9223372036854775807) = true := decide_eq_true c5
   try have c5b2 : (9223372036854775807 < t153.size + t154.size) = False := eq_false (Nat.not_lt.2 c5)
   simp only [Option.some.injEq, Prod.mk.injEq] at H
   obtain ⟨rfl, rfl⟩ := H
   go_enter Try.func33, Try.ntmps33
   go_wp2_with (first | ((with_reducible refine q0h (f := 35) rfl ?_); refine q0s (some 9) rfl rfl Try.func35 (by kernel_rfl) rfl #[.string a0] rfl (by (try simp only [List.map_toArray, List.map_cons, List.map_nil]); first | done | rfl | (simp only [List.length_drop, List.length_take]; rfl)) ?_; (with_reducible refine (code_PutField.calls k a0 t153 _ A3.out).mono ?_); rintro e w6 ⟨rfl, hb⟩; refine ⟨_, rfl, ?_⟩; have n0_ := q04.mk (q0a (by repeat (first | (with_reducible first | exact HB.out | apply q02 | apply q00 | apply q01) | exact HB.out)) hb); clear HB; have HB := n0_; clear n0_; (try clear hb); (try clear hb2); (try clear hk); (try clear hi)) | ((with_reducible refine q0h (f := 57) rfl ?_); refine q0s (some 12) rfl rfl Try.func57 (by kernel_rfl) rfl #[.string t153] rfl (by (try simp only [List.map_toArray, List.map_cons, List.map_nil]); first | done | rfl | (simp only [List.length_drop, List.length_take]; rfl)) ?_; (with_reducible refine (frame_seal.calls t153 t154 _ A4.out).mono ?_); rintro e w7 ⟨rfl, hb⟩; refine ⟨_, rfl, ?_⟩; have n0_ := q04.mk (q0a (by repeat (first | (with_reducible first | exact HB.out | apply q02 | apply q00 | apply q01) | exact HB.out)) hb); clear HB; have HB := n0_; clear n0_; (try clear hb); (try clear hb2); (try clear hk); (try clear hi)))
   go_ret2
   exact ⟨by first | rfl | (simp [q0c, q0b] <;> rfl) | (simp [*, q0c, q0b] <;> rfl), by repeat (first | (with_reducible first | exact HB.out | apply q02 | apply q00 | apply q01) | exact HB.out)⟩
  ·rw [if_neg c5] at H
   exact absurd H (by simp)
end Go.Proofs.Ytaigmemmgjlhgaa.Print
-- Print9
namespace Go.Proofs.Ytaigmemmgjlhgaa.Print
open Go.RowKit Go.Proofs.YtaigmemmgjlhgaaW.PrintWords Go.Proofs.YtaigmemmgjlhgaaW.PrintLast Go.Proofs.YtaigmemmgjlhgaaW.PrintMore
attribute [local go_sem] q1d q1b q1t q1s q19 q17 q1c q1a
set_option linter.unusedVariables false
set_option linter.unusedSimpArgs false
def frame_Get.f (k : Nat) (a0 : ByteArray) : Option (ByteArray × Int × Int) := (code_Field.f k a0 65536).bind fun bt155 => (if bt155.2.2 = 0 then (if (wrap64 ((a0.size : Int) - bt155.2.1)) < 4 then (some ((⟨#[]⟩ : ByteArray), 0, 6)) else (if 0 ≤ bt155.2.1 then (if bt155.2.1 ≤ (a0.size : Int) then ((frame_seal.f (a0.extract 0 (bt155.2.1 : Int).toNat)).bind fun t158 => (if bt155.2.1 ≤ (wrap64 (bt155.2.1 + 4)) then (if (wrap64 (bt155.2.1 + 4)) ≤ (a0.size : Int) then (if t158.toList = (a0.extract (bt155.2.1 : Int).toNat ((wrap64 (bt155.2.1 + 4)) : Int).toNat).toList then (some (bt155.1, wrap64 (bt155.2.1 + 4), 0)) else (some ((⟨#[]⟩ : ByteArray), 0, 7))) else (none)) else (none))) else (none)) else (none))) else (some ((⟨#[]⟩ : ByteArray), 0, bt155.2.2)))
theorem frame_Get.mono : ∀ a0 k, LeO (frame_Get.f k a0) (frame_Get.f (k + 1) a0) := by
 intro a0 k
 unfold frame_Get.f
 repeat' first
   | (with_reducible exact code_Field.mono _ _ _)
   | (with_reducible exact LeO.refl _)
   | (with_reducible exact LeO.none _)
   | (with_reducible refine LeO.ite ?_ ?_)
   | (with_reducible refine LeO.bind ?_ (fun _ => ?_))
   | exact code_Field.mono _ _ _
   | exact LeO.none _
   | refine LeO.ite ?_ ?_
   | refine LeO.bind ?_ (fun _ => ?_)
def frame_Get.T6 : Bool × List (List Nat × List Nat) := (true, [([], []), ([], []), ([0, 1], [0, 1]), ([2], [2]), ([], []), ([], []), ([], []), ([6], [6]), ([4, 5, 7], [4, 5, 7]), ([3, 8], [3, 8]), ([9, 3], [9])])
def frame_Get.B6 : List Nat := [0, 0, 3, 7, 0, 0, 0, 64, 240, 511, 1023]
theorem frame_Get.tab6 : rtab .any (opsOf Try.f63 6) = frame_Get.T6 := by kernel_rfl
theorem frame_Get.bits6 : waitsOk frame_Get.T6.2 frame_Get.B6 = true := by kernel_rfl
set_option maxHeartbeats 8000000 in
set_option maxRecDepth 100000 in
theorem frame_Get.calls (k : Nat) (a0 : ByteArray) (r1 : ByteArray) (r2 : Int) (r3 : Int) (w : World) (h : frame_Get.f k a0 = some (r1, r2, r3)) :
  Calls Try.prog 63 #[.string a0] w fun e w' => e = .returned (.tuple #[.string r1, .int .i64 r2, .int .i64 r3]) ∧ Below w.heap.size w w' := by
 have HB := q04.mk (Below.refl w.heap.size w)
 have H : ((code_Field.f k a0 65536).bind fun bt155 => (if bt155.2.2 = 0 then (if (wrap64 ((a0.size : Int) - bt155.2.1)) < 4 then (some ((⟨#[]⟩ : ByteArray), 0, 6)) else (if 0 ≤ bt155.2.1 then (if bt155.2.1 ≤ (a0.size : Int) then ((frame_seal.f (a0.extract 0 (bt155.2.1 : Int).toNat)).bind fun t158 => (if bt155.2.1 ≤ (wrap64 (bt155.2.1 + 4)) then (if (wrap64 (bt155.2.1 + 4)) ≤ (a0.size : Int) then (if t158.toList = (a0.extract (bt155.2.1 : Int).toNat ((wrap64 (bt155.2.1 + 4)) : Int).toNat).toList then (some (bt155.1, wrap64 (bt155.2.1 + 4), 0)) else (some ((⟨#[]⟩ : ByteArray), 0, 7))) else (none)) else (none))) else (none)) else (none))) else (some ((⟨#[]⟩ : ByteArray), 0, bt155.2.2)))) = some (r1, r2, r3) := h
 clear h
 replace H := Option.bind_eq_some_iff.mp H
 obtain ⟨⟨t155, t156, t157⟩, A20, H⟩ := H
 replace H : (if t157 = 0 then (if (wrap64 ((a0.size : Int) - t156)) < 4 then (some ((⟨#[]⟩ : ByteArray), 0, 6)) else (if 0 ≤ t156 then (if t156 ≤ (a0.size : Int) then ((frame_seal.f (a0.extract 0 (t156 : Int).toNat)).bind fun t158 => (if t156 ≤ (wrap64 (t156 + 4)) then (if (wrap64 (t156 + 4)) ≤ (a0.size : Int) then (if t158.toList = (a0.extract (t156 : Int).toNat ((wrap64 (t156 + 4)) : Int).toNat).toList then (some (t155, wrap64 (t156 + 4), 0)) else (some ((⟨#[]⟩ : ByteArray), 0, 7))) else (none)) else (none))) else (none)) else (none))) else (some ((⟨#[]⟩ : ByteArray), 0, t157))) = some (r1, r2, r3) := H
 have A2 := q04.mk A20
 clear A20
 by_cases c3 : t157 = 0
 ·rw [if_pos c3] at H
  have c3b0 : (t157 == 0) = true := beq_iff_eq.mpr c3
  have c3b1 : (t157 != 0) = false := bne_eq_false_iff_eq.mpr c3
  clear c3
  by_cases c4 : (wrap64 ((a0.size : Int) - t156)) < 4
  ·rw [if_pos c4] at H
   have c4b0 : decide ((wrap64 ((a0.size : Int) - t156)) < 4) = true := decide_eq_true c4
   clear c4
   simp only [Option.some.injEq, Prod.mk.injEq] at H
   obtain ⟨rfl, rfl, rfl⟩ := H
   go_enter Try.func63, Try.ntmps63
   go_wp2_with (first | ((with_reducible refine q0h (f := 67) rfl ?_); refine q0s (some 8) rfl rfl Try.func67 (by kernel_rfl) rfl #[.string a0, .int .i64 65536] rfl (by (try simp only [List.map_toArray, List.map_cons, List.map_nil]); first | done | rfl | (simp only [List.length_drop, List.length_take]; rfl)) ?_; (with_reducible refine (code_Field.calls k a0 65536 t155 t156 t157 _ A2.out).mono ?_); rintro e w5 ⟨rfl, hb⟩; refine ⟨_, rfl, ?_⟩; have n0_ := q04.mk (q0a (by repeat (first | (with_reducible first | exact HB.out | apply q02 | apply q00 | apply q01) | exact HB.out)) hb); clear HB; have HB := n0_; clear n0_; (try clear hb); (try clear hb2); (try clear hk); (try clear hi)))
   go_ret3
   exact ⟨by first | rfl | (simp [q0c, q0b] <;> rfl) | (simp [*, q0c, q0b] <;> rfl), by repeat (first | (with_reducible first | exact HB.out | apply q02 | apply q00 | apply q01) | exact HB.out)⟩
  ·rw [if_neg c4] at H
   have c4b0 : decide ((wrap64 ((a0.size : Int) - t156)) < 4) = false := decide_eq_false c4
   clear c4
   by_cases c6 : 0 ≤ t156
   ·rw [if_pos c6] at H
    have c6b0 := eq_true c6
    have c6b1 : decide (0 ≤ t156) = true := decide_eq_true c6
    clear c6
    by_cases c7 : t156 ≤ (a0.size : Int)
    ·rw [if_pos c7] at H
     have c7b0 := eq_true c7
     have c7b1 : decide (t156 ≤ (a0.size : Int)) = true := decide_eq_true c7
     clear c7
     replace H := Option.bind_eq_some_iff.mp H
     obtain ⟨t158, A80, H⟩ := H
     replace H : (if t156 ≤ (wrap64 (t156 + 4)) then (if (wrap64 (t156 + 4)) ≤ (a0.size : Int) then (if t158.toList = (a0.extract (t156 : Int).toNat ((wrap64 (t156 + 4)) : Int).toNat).toList then (some (t155, wrap64 (t156 + 4), 0)) else (some ((⟨#[]⟩ : ByteArray), 0, 7))) else (none)) else (none)) = some (r1, r2, r3) := H
     have A8 := q04.mk A80
     clear A80
     have c9b0 := eq_true (of_decide_eq_true (by first | (with_reducible assumption) | assumption) : 0 ≤ t156)
     by_cases c10 : t156 ≤ (wrap64 (t156 + 4))
     ·rw [if_pos c10] at H
      have c10b0 := eq_true c10
      have c10b1 : decide (t156 ≤ (wrap64 (t156 + 4))) = true := decide_eq_true c10
      by_cases c11 : (wrap64 (t156 + 4)) ≤ (a0.size : Int)
      ·rw [if_pos c11] at H
       have c11b0 := eq_true c11
       have c11b1 : decide ((wrap64 (t156 + 4)) ≤ (a0.size : Int)) = true := decide_eq_true c11
       by_cases c12 : t158.toList = (a0.extract (t156 : Int).toNat ((wrap64 (t156 + 4)) : Int).toNat).toList
       ·rw [if_pos c12] at H
        have c12b0 : (t158.toList == (a0.extract (t156 : Int).toNat ((wrap64 (t156 + 4)) : Int).toNat).toList) = true := beq_iff_eq.mpr c12
        have c12b1 : (t158.toList != (a0.extract (t156 : Int).toNat ((wrap64 (t156 + 4)) : Int).toNat).toList) = false := bne_eq_false_iff_eq.mpr c12
        clear c12
        simp only [Option.some.injEq, Prod.mk.injEq] at H
        obtain ⟨rfl, rfl, rfl⟩ := H
        go_enter Try.func63, Try.ntmps63
        try go_wp2_with (first | ((with_reducible refine q0h (f := 67) rfl ?_); refine q0s (some 8) rfl rfl Try.func67 (by kernel_rfl) rfl #[.string a0, .int .i64 65536] rfl (by (try simp only [List.map_toArray, List.map_cons, List.map_nil]); first | done | rfl | (simp only [List.length_drop, List.length_take]; rfl)) ?_; (with_reducible refine (code_Field.calls k a0 65536 t155 t156 t157 _ A2.out).mono ?_); rintro e w13 ⟨rfl, hb⟩; refine ⟨_, rfl, ?_⟩; have n0_ := q04.mk (q0a (by repeat (first | (with_reducible first | exact HB.out | apply q02 | apply q00 | apply q01) | exact HB.out)) hb); clear HB; have HB := n0_; clear n0_; (try clear hb); (try clear hb2); (try clear hk); (try clear hi)))
        have n0_ := q04.mk (q01 HB.out)
        clear HB
        have HB := n0_
        clear n0_
        refine start_ (n := 11) (S := fun w' => True) (ds := []) #[false, false, false, false, false, false, false, false, false, false, false] (by kernel_rfl) rfl rfl trivial (fun hHeld => ?_); refine q16 frame_Get.tab6 frame_Get.bits6 (fun HT_ HW_ => ?_)
        generalize w13.drew = w14 at HB hHeld ⊢
        refine pure_ (i := 0) (N := some 23) (v := ?_) (a' := ?_) #[true, false, false, false, false, false, false, false, false, false, false] rfl rfl (q0j HT_.out (by kernel_rfl)) (fun _ _ _ h => h) (Or.inl ⟨by rfl, ?_⟩) ?_ ?_
        rotate_left
        ·intro w'
         go_simp
         with_reducible rfl
        rotate_left
        ·simp only [Act.put, qa20, qb20, qc20, i64_w, i32_w]
         rfl
        refine pure_ (i := 1) (N := some 24) (v := ?_) (a' := ?_) #[true, true, false, false, false, false, false, false, false, false, false] rfl rfl (q0j HT_.out (by kernel_rfl)) (fun _ _ _ h => h) (Or.inl ⟨by rfl, ?_⟩) ?_ ?_
        rotate_left
        ·intro w'
         go_simp
         with_reducible rfl
        rotate_left
        ·simp only [Act.put, qa20, qb20, qc20, i64_w, i32_w]
         rfl
        refine pure_ (i := 2) (N := some 25) (v := ?_) (a' := ?_) #[true, true, true, false, false, false, false, false, false, false, false] rfl rfl (q0j HT_.out (by kernel_rfl)) (fun _ _ _ h => h) (Or.inl ⟨by rfl, ?_⟩) ?_ ?_
        rotate_left
        ·intro w'
         go_simp
         with_reducible rfl
        rotate_left
        ·simp only [Act.put, qa20, qb20, qc20, i64_w, i32_w]
         rfl
        refine pure_ (i := 4) (N := some 27) (v := ?_) (a' := ?_) #[true, true, true, false, true, false, false, false, false, false, false] rfl rfl (q0j HT_.out (by kernel_rfl)) (fun _ _ _ h => h) (Or.inl ⟨by rfl, ?_⟩) ?_ ?_
        rotate_left
        ·intro w'
         go_simp
         with_reducible rfl
        rotate_left
        ·simp only [Act.put, qa20, qb20, qc20, i64_w, i32_w]
         rfl
        refine pure_ (i := 5) (N := some 28) (v := ?_) (a' := ?_) #[true, true, true, false, true, true, false, false, false, false, false] rfl rfl (q0j HT_.out (by kernel_rfl)) (fun _ _ _ h => h) (Or.inl ⟨by rfl, ?_⟩) ?_ ?_
        rotate_left
        ·intro w'
         go_simp
         with_reducible rfl
        rotate_left
        ·simp only [Act.put, qa20, qb20, qc20, i64_w, i32_w]
         rfl
        refine pure_ (i := 6) (N := some 29) (v := ?_) (a' := ?_) #[true, true, true, false, true, true, true, false, false, false, false] rfl rfl (q0j HT_.out (by kernel_rfl)) (fun _ _ _ h => h) (Or.inl ⟨by rfl, ?_⟩) ?_ ?_
        rotate_left
        ·intro w'
         go_simp
         with_reducible rfl
        rotate_left
        ·simp only [Act.put, qa20, qb20, qc20, i64_w, i32_w]
         rfl
        refine pure_ (i := 7) (N := some 30) (v := ?_) (a' := ?_) #[true, true, true, false, true, true, true, true, false, false, false] rfl rfl (q0j HT_.out (by kernel_rfl)) (fun _ _ _ h => h) (Or.inl ⟨by rfl, ?_⟩) ?_ ?_
        rotate_left
        ·intro w'
         go_simp
         with_reducible rfl
        rotate_left
        ·simp only [Act.put, qa20, qb20, qc20, i64_w, i32_w]
         rfl
        refine pure_ (i := 8) (N := some 31) (v := ?_) (a' := ?_) #[true, true, true, false, true, true, true, true, true, false, false] rfl rfl (q0j HT_.out (by kernel_rfl)) (fun _ _ _ h => h) (Or.inl ⟨by rfl, ?_⟩) ?_ ?_
        rotate_left
        ·intro w'
         go_simp
         with_reducible rfl
        rotate_left
        ·simp only [Act.put, qa20, qb20, qc20, i64_w, i32_w]
         rfl
        refine one_ (i := 3) (N := some 26) #[true, true, true, true, true, true, true, true, true, false, false] rfl rfl (q13 HT_.out (by kernel_rfl)) (by decide) (fun K hK => ?_)
        refine goes_ Try.func57 (by kernel_rfl) rfl #[.string (a0.extract 0 (t156 : Int).toNat)] (by rfl) rfl rfl (by (try simp only [List.map_toArray, List.map_cons, List.map_nil]); first | done | rfl | (simp only [List.length_drop, List.length_take]; rfl)) ?_
        with_reducible refine (frame_seal.calls (a0.extract 0 (t156 : Int).toNat) t158 _ A8.out).mono ?_
        rintro e w15 ⟨rfl, hb⟩
        refine ⟨_, rfl, ?_⟩
        have n0_ := q04.mk (q0a (by repeat (first | (with_reducible first | exact HB.out | apply q02 | apply q00 | apply q01) | exact HB.out)) hb)
        clear HB
        have HB := n0_
        clear n0_
        (try clear hb)
        (try clear hb2)
        (try clear hk)
        (try clear hi)
        refine hK.out _ _ trivial (fun hHeld => ?_)
        clear hK K
        refine norm_ (a' := ?_) ?_ ?_
        rotate_left
        ·show Act.put _ (some 26) _ = _
         simp only [Act.put, qa20, qb20, qc20, i64_w, i32_w]
         rfl
        refine pure_ (i := 9) (N := some 32) (v := ?_) (a' := ?_) #[true, true, true, true, true, true, true, true, true, true, false] rfl rfl (q0j HT_.out (by kernel_rfl)) (fun _ _ _ h => h) (Or.inl ⟨by rfl, ?_⟩) ?_ ?_
        rotate_left
        ·intro w'
         go_simp
         with_reducible rfl
        rotate_left
        ·simp only [Act.put, qa20, qb20, qc20, i64_w, i32_w]
         rfl
        refine pure_ (i := 10) (N := some 22) (v := ?_) (a' := ?_) #[true, true, true, true, true, true, true, true, true, true, true] rfl rfl (q0j HT_.out (by kernel_rfl)) (fun _ _ _ h => h) (Or.inl ⟨by rfl, ?_⟩) ?_ ?_
        rotate_left
        ·intro w'
         go_simp
         with_reducible rfl
        rotate_left
        ·simp only [Act.put, qa20, qb20, qc20, i64_w, i32_w]
         rfl
        refine done_ (q1u HT_.out (by kernel_rfl)) ?_
        try go_wp2
        go_ret3
        exact ⟨by first | rfl | (simp [q0c, q0b] <;> rfl) | (simp [*, q0c, q0b] <;> rfl), by repeat (first | (with_reducible first | exact HB.out | apply q02 | apply q00 | apply q01) | exact HB.out)⟩
       ·rw [if_neg c12] at H
        have c12b0 : (t158.toList == (a0.extract (t156 : Int).toNat ((wrap64 (t156 + 4)) : Int).toNat).toList) = false := beq_eq_false_iff_ne.mpr c12
        have c12b1 : (t158.toList != (a0.extract (t156 : Int).toNat ((wrap64 (t156 + 4)) : Int).toNat).toList) = true := bne_iff_ne.mpr c12
        simp only [Option.some.injEq, Prod.mk.injEq] at H
        obtain ⟨rfl, rfl, rfl⟩ := H
        go_enter Try.func63, Try.ntmps63
        try go_wp2_with (first | ((with_reducible refine q0h (f := 67) rfl ?_); refine q0s (some 8) rfl rfl Try.func67 (by kernel_rfl) rfl #[.string a0, .int .i64 65536] rfl (by (try simp only [List.map_toArray, List.map_cons, List.map_nil]); first | done | rfl | (simp only [List.length_drop, List.length_take]; rfl)) ?_; (with_reducible refine (code_Field.calls k a0 65536 t155 t156 t157 _ A2.out).mono ?_); rintro e w16 ⟨rfl, hb⟩; refine ⟨_, rfl, ?_⟩; have n0_ := q04.mk (q0a (by repeat (first | (with_reducible first | exact HB.out | apply q02 | apply q00 | apply q01) | exact HB.out)) hb); clear HB; have HB := n0_; clear n0_; (try clear hb); (try clear hb2); (try clear hk); (try clear hi)))
        have n0_ := q04.mk (q01 HB.out)
        clear HB
        have HB := n0_
        clear n0_
        refine start_ (n := 11) (S := fun w' => True) (ds := []) #[false, false, false, false, false, false, false, false, false, false, false] (by kernel_rfl) rfl rfl trivial (fun hHeld => ?_); refine q16 frame_Get.tab6 frame_Get.bits6 (fun HT_ HW_ => ?_)
        generalize w16.drew = w17 at HB hHeld ⊢
        refine pure_ (i := 0) (N := some 23) (v := ?_) (a' := ?_) #[true, false, false, false, false, false, false, false, false, false, false] rfl rfl (q0j HT_.out (by kernel_rfl)) (fun _ _ _ h => h) (Or.inl ⟨by rfl, ?_⟩) ?_ ?_
        rotate_left
        ·intro w'
         go_simp
         with_reducible rfl
        rotate_left
        ·simp only [Act.put, qa20, qb20, qc20, i64_w, i32_w]
         rfl
        refine pure_ (i := 1) (N := some 24) (v := ?_) (a' := ?_) #[true, true, false, false, false, false, false, false, false, false, false] rfl rfl (q0j HT_.out (by kernel_rfl)) (fun _ _ _ h => h) (Or.inl ⟨by rfl, ?_⟩) ?_ ?_
        rotate_left
        ·intro w'
         go_simp
         with_reducible rfl
        rotate_left
        ·simp only [Act.put, qa20, qb20, qc20, i64_w, i32_w]
         rfl
        refine pure_ (i := 2) (N := some 25) (v := ?_) (a' := ?_) #[true, true, true, false, false, false, false, false, false, false, false] rfl rfl (q0j HT_.out (by kernel_rfl)) (fun _ _ _ h => h) (Or.inl ⟨by rfl, ?_⟩) ?_ ?_
        rotate_left
        ·intro w'
         go_simp
         with_reducible rfl
        rotate_left
        ·simp only [Act.put, qa20, qb20, qc20, i64_w, i32_w]
         rfl
        refine pure_ (i := 4) (N := some 27) (v := ?_) (a' := ?_) #[true, true, true, false, true, false, false, false, false, false, false] rfl rfl (q0j HT_.out (by kernel_rfl)) (fun _ _ _ h => h) (Or.inl ⟨by rfl, ?_⟩) ?_ ?_
        rotate_left
        ·intro w'
         go_simp
         with_reducible rfl
        rotate_left
        ·simp only [Act.put, qa20, qb20, qc20, i64_w, i32_w]
         rfl
        refine pure_ (i := 5) (N := some 28) (v := ?_) (a' := ?_) #[true, true, true, false, true, true, false, false, false, false, false] rfl rfl (q0j HT_.out (by kernel_rfl)) (fun _ _ _ h => h) (Or.inl ⟨by rfl, ?_⟩) ?_ ?_
        rotate_left
        ·intro w'
         go_simp
         with_reducible rfl
        rotate_left
        ·simp only [Act.put, qa20, qb20, qc20, i64_w, i32_w]
         rfl
        refine pure_ (i := 6) (N := some 29) (v := ?_) (a' := ?_) #[true, true, true, false, true, true, true, false, false, false, false] rfl rfl (q0j HT_.out (by kernel_rfl)) (fun _ _ _ h => h) (Or.inl ⟨by rfl, ?_⟩) ?_ ?_
        rotate_left
        ·intro w'
         go_simp
         with_reducible rfl
        rotate_left
        ·simp only [Act.put, qa20, qb20, qc20, i64_w, i32_w]
         rfl
        refine pure_ (i := 7) (N := some 30) (v := ?_) (a' := ?_) #[true, true, true, false, true, true, true, true, false, false, false] rfl rfl (q0j HT_.out (by kernel_rfl)) (fun _ _ _ h => h) (Or.inl ⟨by rfl, ?_⟩) ?_ ?_
        rotate_left
        ·intro w'
         go_simp
         with_reducible rfl
        rotate_left
        ·simp only [Act.put, qa20, qb20, qc20, i64_w, i32_w]
         rfl
        refine pure_ (i := 8) (N := some 31) (v := ?_) (a' := ?_) #[true, true, true, false, true, true, true, true, true, false, false] rfl rfl (q0j HT_.out (by kernel_rfl)) (fun _ _ _ h => h) (Or.inl ⟨by rfl, ?_⟩) ?_ ?_
        rotate_left
        ·intro w'
         go_simp
         with_reducible rfl
        rotate_left
        ·simp only [Act.put, qa20, qb20, qc20, i64_w, i32_w]
         rfl
        refine one_ (i := 3) (N := some 26) #[true, true, true, true, true, true, true, true, true, false, false] rfl rfl (q13 HT_.out (by kernel_rfl)) (by decide) (fun K hK => ?_)
        refine goes_ Try.func57 (by kernel_rfl) rfl #[.string (a0.extract 0 (t156 : Int).toNat)] (by rfl) rfl rfl (by (try simp only [List.map_toArray, List.map_cons, List.map_nil]); first | done | rfl | (simp only [List.length_drop, List.length_take]; rfl)) ?_
        with_reducible refine (frame_seal.calls (a0.extract 0 (t156 : Int).toNat) t158 _ A8.out).mono ?_
        rintro e w18 ⟨rfl, hb⟩
        refine ⟨_, rfl, ?_⟩
        have n0_ := q04.mk (q0a (by repeat (first | (with_reducible first | exact HB.out | apply q02 | apply q00 | apply q01) | exact HB.out)) hb)
        clear HB
        have HB := n0_
        clear n0_
        (try clear hb)
        (try clear hb2)
        (try clear hk)
        (try clear hi)
        refine hK.out _ _ trivial (fun hHeld => ?_)
        clear hK K
        refine norm_ (a' := ?_) ?_ ?_
        rotate_left
        ·show Act.put _ (some 26) _ = _
         simp only [Act.put, qa20, qb20, qc20, i64_w, i32_w]
         rfl
        refine pure_ (i := 9) (N := some 32) (v := ?_) (a' := ?_) #[true, true, true, true, true, true, true, true, true, true, false] rfl rfl (q0j HT_.out (by kernel_rfl)) (fun _ _ _ h => h) (Or.inl ⟨by rfl, ?_⟩) ?_ ?_
        rotate_left
        ·intro w'
         go_simp
         with_reducible rfl
        rotate_left
        ·simp only [Act.put, qa20, qb20, qc20, i64_w, i32_w]
         rfl
        refine pure_ (i := 10) (N := some 22) (v := ?_) (a' := ?_) #[true, true, true, true, true, true, true, true, true, true, true] rfl rfl (q0j HT_.out (by kernel_rfl)) (fun _ _ _ h => h) (Or.inl ⟨by rfl, ?_⟩) ?_ ?_
        rotate_left
        ·intro w'
         go_simp
         with_reducible rfl
        rotate_left
        ·simp only [Act.put, qa20, qb20, qc20, i64_w, i32_w]
         rfl
        refine done_ (q1u HT_.out (by kernel_rfl)) ?_
        try go_wp2
        go_ret3
        exact ⟨by first | rfl | (simp [q0c, q0b] <;> rfl) | (simp [*, q0c, q0b] <;> rfl), by repeat (first | (with_reducible first | exact HB.out | apply q02 | apply q00 | apply q01) | exact HB.out)⟩
      ·rw [if_neg c11] at H
       exact absurd H (by simp)
     ·rw [if_neg c10] at H
      exact absurd H (by simp)
    ·rw [if_neg c7] at H
     exact absurd H (by simp)
   ·rw [if_neg c6] at H
    exact absurd H (by simp)
 ·rw [if_neg c3] at H
  have c3b0 : (t157 == 0) = false := beq_eq_false_iff_ne.mpr c3
  have c3b1 : (t157 != 0) = true := bne_iff_ne.mpr c3
  simp only [Option.some.injEq, Prod.mk.injEq] at H
  obtain ⟨rfl, rfl, rfl⟩ := H
  go_enter Try.func63, Try.ntmps63
  go_wp2_with (first | ((with_reducible refine q0h (f := 67) rfl ?_); refine q0s (some 8) rfl rfl Try.func67 (by kernel_rfl) rfl #[.string a0, .int .i64 65536] rfl (by (try simp only [List.map_toArray, List.map_cons, List.map_nil]); first | done | rfl | (simp only [List.length_drop, List.length_take]; rfl)) ?_; (with_reducible refine (code_Field.calls k a0 65536 t155 t156 t157 _ A2.out).mono ?_); rintro e w19 ⟨rfl, hb⟩; refine ⟨_, rfl, ?_⟩; have n0_ := q04.mk (q0a (by repeat (first | (with_reducible first | exact HB.out | apply q02 | apply q00 | apply q01) | exact HB.out)) hb); clear HB; have HB := n0_; clear n0_; (try clear hb); (try clear hb2); (try clear hk); (try clear hi)))
  go_ret3
  exact ⟨by first | rfl | (simp [q0c, q0b] <;> rfl) | (simp [*, q0c, q0b] <;> rfl), by repeat (first | (with_reducible first | exact HB.out | apply q02 | apply q00 | apply q01) | exact HB.out)⟩
def bloom_Check.f (a0 : ByteArray) : Option (Int) := if (a0.size : Int) < 9 then (some 7) else (if (a0.size : Int) > 262145 then (some 7) else (if 0 < (a0.size : Int) then (if (bt a0 0) < 1 then (some 7) else (if (bt a0 0) > 22 then (some 7) else (some 0))) else (none)))
set_option maxHeartbeats 8000000 in
set_option maxRecDepth 100000 in
theorem bloom_Check.calls (a0 : ByteArray) (r : Int) (w : World) (h : bloom_Check.f a0 = some r) :
  Calls Try.prog 43 #[.string a0] w fun e w' => e = .returned (.int .i64 r) ∧ q0k w w' := by
 have H : (if (a0.size : Int) < 9 then (some 7) else (if (a0.size : Int) > 262145 then (some 7) else (if 0 < (a0.size : Int) then (if (bt a0 0) < 1 then (some 7) else (if (bt a0 0) > 22 then (some 7) else (some 0))) else (none)))) = some r := h
 clear h
 by_cases c2 : (a0.size : Int) < 9
 ·rw [if_pos c2] at H
  have c2b0 : decide ((a0.size : Int) < 9) = true := decide_eq_true c2
  have c2b1 : decide (a0.size < 9) = true := decide_eq_true (by omega)
  clear c2
  obtain rfl := Option.some.inj H
  go_enter Try.func43, Try.ntmps43
  go_wp2
  go_ret
  exact ⟨by first | rfl | (simp; done) | (simp [*]; done), by repeat (first | exact q0k.refl _ | apply q0k.step)⟩
 ·rw [if_neg c2] at H
  have c2b0 : decide ((a0.size : Int) < 9) = false := decide_eq_false c2
  have c2b1 : decide (a0.size < 9) = false := decide_eq_false (by omega)
  clear c2
  by_cases c3 : (a0.size : Int) > 262145
  ·rw [if_pos c3] at H
   have c3b0 : decide (262145 < (a0.size : Int)) = true := decide_eq_true c3
   have c3b1 : decide (262145 < a0.size) = true := decide_eq_true (by omega)
   clear c3
   obtain rfl := Option.some.inj H
   go_enter Try.func43, Try.ntmps43
   go_wp2
   go_ret
   exact ⟨by first | rfl | (simp; done) | (simp [*]; done), by repeat (first | exact q0k.refl _ | apply q0k.step)⟩
  ·rw [if_neg c3] at H
   have c3b0 : decide (262145 < (a0.size : Int)) = false := decide_eq_false c3
   have c3b1 : decide (262145 < a0.size) = false := decide_eq_false (by omega)
   clear c3
   by_cases c4 : 0 < (a0.size : Int)
   ·rw [if_pos c4] at H
    have c4b0 : decide (0 < (a0.size : Int)) = true := decide_eq_true c4
    have c4b1 : decide (0 < a0.size) = true := decide_eq_true (by omega)
    clear c4
    by_cases c6 : (bt a0 0) < 1
    ·rw [if_pos c6] at H
     have c6b0 : decide ((bt a0 0) < 1) = true := decide_eq_true c6
     clear c6
     obtain rfl := Option.some.inj H
     have p5 : 0 ≤ (0 : Int) := (by omega)
     have q5 : 0 < a0.size := (by have : (0 : Int) < (a0.size : Int) := of_decide_eq_true (by first | (with_reducible assumption) | assumption); omega)
     have hx5 : ∀ h : 0 < a0.size, ((a0[0]'h).toNat : Int) = bt a0 0 := bt_at a0 0
     clear p5
     have qi5 : (0 < (a0.size : Int)) = True := eq_true (of_decide_eq_true (by first | (with_reducible assumption) | assumption))
     replace q5 := eq_true q5
     go_enter Try.func43, Try.ntmps43
     go_wp2
     go_ret
     exact ⟨by first | rfl | (simp; done) | (simp [*]; done), by repeat (first | exact q0k.refl _ | apply q0k.step)⟩
    ·rw [if_neg c6] at H
     have c6b0 : decide ((bt a0 0) < 1) = false := decide_eq_false c6
     clear c6
     by_cases c8 : (bt a0 0) > 22
     ·rw [if_pos c8] at H
      have c8b0 : decide (22 < (bt a0 0)) = true := decide_eq_true c8
      clear c8
      obtain rfl := Option.some.inj H
      have p5 : 0 ≤ (0 : Int) := (by omega)
      have q5 : 0 < a0.size := (by have : (0 : Int) < (a0.size : Int) := of_decide_eq_true (by first | (with_reducible assumption) | assumption); omega)
      have hx5 : ∀ h : 0 < a0.size, ((a0[0]'h).toNat : Int) = bt a0 0 := bt_at a0 0
      clear p5
      have qi5 : (0 < (a0.size : Int)) = True := eq_true (of_decide_eq_true (by first | (with_reducible assumption) | assumption))
      replace q5 := eq_true q5
      have p7 : 0 ≤ (0 : Int) := (by omega)
      have q7 : 0 < a0.size := (by have : (0 : Int) < (a0.size : Int) := of_decide_eq_true (by first | (with_reducible assumption) | assumption); omega)
      have hx7 : ∀ h : 0 < a0.size, ((a0[0]'h).toNat : Int) = bt a0 0 := bt_at a0 0
      clear p7
      have qi7 : (0 < (a0.size : Int)) = True := eq_true (of_decide_eq_true (by first | (with_reducible assumption) | assumption))
      replace q7 := eq_true q7
      go_enter Try.func43, Try.ntmps43
      go_wp2
      go_ret
      exact ⟨by first | rfl | (simp; done) | (simp [*]; done), by repeat (first | exact q0k.refl _ | apply q0k.step)⟩
     ·rw [if_neg c8] at H
      have c8b0 : decide (22 < (bt a0 0)) = false := decide_eq_false c8
      clear c8
      obtain rfl := Option.some.inj H
      have p5 : 0 ≤ (0 : Int) := (by omega)
      have q5 : 0 < a0.size := (by have : (0 : Int) < (a0.size : Int) := of_decide_eq_true (by first | (with_reducible assumption) | assumption); omega)
      have hx5 : ∀ h : 0 < a0.size, ((a0[0]'h).toNat : Int) = bt a0 0 := bt_at a0 0
      clear p5
      have qi5 : (0 < (a0.size : Int)) = True := eq_true (of_decide_eq_true (by first | (with_reducible assumption) | assumption))
      replace q5 := eq_true q5
      have p7 : 0 ≤ (0 : Int) := (by omega)
      have q7 : 0 < a0.size := (by have : (0 : Int) < (a0.size : Int) := of_decide_eq_true (by first | (with_reducible assumption) | assumption); omega)
      have hx7 : ∀ h : 0 < a0.size, ((a0[0]'h).toNat : Int) = bt a0 0 := bt_at a0 0
      clear p7
      have qi7 : (0 < (a0.size : Int)) = True := eq_true (of_decide_eq_true (by first | (with_reducible assumption) | assumption))
      replace q7 := eq_true q7
      go_enter Try.func43, Try.ntmps43
      go_wp2
      go_ret
      exact ⟨by first | rfl | (simp; done) | (simp [*]; done), by repeat (first | exact q0k.refl _ | apply q0k.step)⟩
   ·rw [if_neg c4] at H
    exact absurd H (by simp)
end Go.Proofs.Ytaigmemmgjlhgaa.Print
-- RFrame
namespace Go.Proofs.Ytaigmemmgjlhgaa.Print
open Go.RowKit PLink Txt Go.Proofs.YtaigmemmgjlhgaaW.PrintWords
theorem L_toList (s : ByteArray) : s.toList = L s := ByteArray.toList_eq s
theorem B_append (l : List UInt8) (s : ByteArray) : B l ++ s = B (l ++ L s) := by
 apply L_inj; rw [q0t]
theorem le4_nums (u : BitVec 32) : strOfNums [I u % 256, (I u / 256) % 256, (I u / 65536) % 256, (I u / 16777216) % 256] = B (PCrc.le4 u) := by
 apply L_inj
 rw [L_nums]
 have := u.isLt
 have a : (I u % 256).toNat = u.toNat % 256 := by unfold I; omega
 have b : (I u / 256 % 256).toNat = u.toNat / 256 % 256 := by unfold I; omega
 have c : (I u / 65536 % 256).toNat = u.toNat / 65536 % 256 := by unfold I; omega
 have d : (I u / 16777216 % 256).toNat = u.toNat / 16777216 := by unfold I; omega
 simp only [List.map_cons, List.map_nil, a, b, c, d]
 rfl
theorem seal_f (s : ByteArray) (h : s.size ≤ 9223372036854775807) : frame_seal.f s = some (B (PFrame.mark (L s))) := by
 unfold frame_seal.f
 rw [of_f s h]
 simp only [Option.bind_some]
 rw [le4_nums]
 rfl
abbrev Z2 (r : List UInt8 × Nat) : ByteArray × Int := (B r.1, (r.2 : Int))
theorem field_small (l : List UInt8) (h : l.length ≤ 65536) : (PCode.putField l).length ≤ 65546 := by
 unfold PCode.putField
 have := PCode.putUint_length_ten (n := l.length) (by omega)
 rw [List.length_append]; omega
theorem frame_put (s : ByteArray) (hs : s.size ≤ 4611686018427387904) : Ev (fun k => frame_Put.f k s) (Z2 (PFrame.put (L s))) := by
 unfold frame_Put.f
 by_cases h : s.size ≤ 65536
 ·rw [PFrame.put_ok (by rw [q0g]; exact h)]
  refine Ev.congr (fun k => if_neg (by omega)) ?_
  refine Ev.bind (code_putField s hs) ?_
  have hf := field_small (L s) (by rw [q0g]; exact h)
  rw [seal_f _ (by rw [q0n]; omega)]
  simp only [Option.bind_some]
  rw [show L (B (PCode.putField (L s))) = PCode.putField (L s) from rfl, if_pos (by rw [q0n, q0n, PFrame.seal_length]; omega), B_append]
  exact Ev.now _
 ·have e : PFrame.put (L s) = ([], 3) := by unfold PFrame.put; rw [q0g, if_pos (by omega)]
  rw [e]
  exact Ev.congr (fun k => if_pos (by omega)) (Ev.now _)
theorem field_size_le {l t : List UInt8} {m : Int} {i : Nat} (h : PCode.field l m = (t, i, 0)) : i ≤ l.length := (PCode.field_ok h).2.2.1
theorem wrap_four (i : Nat) (h : i ≤ 4611686018427387904) : wrap64 ((i : Int) + 4) = ((i + 4 : Nat) : Int) := q0u (x := ((i + 4 : Nat) : Int)) (by omega) (by omega)
theorem wrap_left (n i : Nat) (h : n ≤ 4611686018427387904) (hi : i ≤ n) : wrap64 ((n : Int) - (i : Int)) = ((n - i : Nat) : Int) := by
 rw [show (n : Int) - (i : Int) = ((n - i : Nat) : Int) by omega]; exact q0u (by omega) (by omega)
theorem L_mid (s : ByteArray) (i n : Nat) : L (s.extract i (i + n)) = ((L s).drop i).take n := by
 rw [L_extract, List.drop_take, Nat.add_sub_cancel_left]
theorem frame_get (s : ByteArray) (hs : s.size ≤ 4611686018427380000) : Ev (fun k => frame_Get.f k s) (ZT (PFrame.get (L s))) := by
 unfold frame_Get.f
 refine Ev.bind (code_field s (by omega) 65536 (by decide)) ?_
 have hl := q0g s
 unfold PFrame.get
 have hle : ∀ t i, PCode.field (L s) 65536 = (t, i, 0) → i ≤ (L s).length := fun t i h => field_size_le h
 generalize PCode.field (L s) 65536 = r at hle
 obtain ⟨t, i, x⟩ := r
 by_cases hx : x = 0
 ·subst hx
  have hi := hle t i rfl
  have hi2 : i ≤ 4611686018427387904 := by omega
  simp only [ne_eq, not_true_eq_false, if_false]
  refine Ev.congr (fun k => if_pos rfl) ?_
  rw [wrap_left s.size i (by omega) (by omega)]
  by_cases h4 : (L s).length - i < 4
  ·rw [if_pos h4]
   exact Ev.congr (fun k => if_pos (by omega)) (Ev.now _)
  ·rw [if_neg h4]
   refine Ev.congr (fun k => if_neg (by omega)) ?_
   refine Ev.congr (fun k => if_pos (by omega)) ?_
   refine Ev.congr (fun k => if_pos (by omega)) ?_
   simp only [Int.toNat_natCast]
   rw [seal_f _ (by rw [← q0g, L_take, List.length_take]; omega), wrap_four i hi2]
   simp only [Option.bind_some, Int.toNat_natCast, L_toList]
   rw [L_mid, L_take]
   refine Ev.congr (fun k => if_pos (by omega)) ?_
   refine Ev.congr (fun k => if_pos (by omega)) ?_
   rw [show L (B (PFrame.mark ((L s).take i))) = PFrame.mark ((L s).take i) from rfl]
   by_cases hm : PFrame.mark ((L s).take i) = ((L s).drop i).take 4
   ·rw [if_neg (show ¬ ¬ (PFrame.mark ((L s).take i) = ((L s).drop i).take 4) from fun h => h hm)]
    exact Ev.congr (fun k => if_pos hm) (Ev.now _)
   ·rw [if_pos (show ¬ (PFrame.mark ((L s).take i) = ((L s).drop i).take 4) from hm)]
    exact Ev.congr (fun k => if_neg hm) (Ev.now _)
 ·rw [if_pos hx]
  exact Ev.congr (fun k => if_neg (fun e => hx (Int.ofNat_eq_zero.1 e))) (Ev.now _)
end Go.Proofs.Ytaigmemmgjlhgaa.Print
-- RParts
namespace Go.Proofs.Ytaigmemmgjlhgaa.Block
open Go.RowKit Aid Txt Print Go.Proofs.YtaigmemmgjlhgaaW.PrintWords
theorem i64_or_nat (a b : Nat) (ha : a < 9223372036854775808) (hb : b < 9223372036854775808) : Go.bits .or .i64 (a : Int) (b : Int) = ((a ||| b : Nat) : Int) := by
 have hx : a ||| b < 2 ^ 63 := Nat.or_lt_two_pow (by omega) (by omega)
 show IntKind.i64.wrap ((BitVec.ofInt 64 (a : Int) ||| BitVec.ofInt 64 (b : Int)).toNat : Int) = _
 rw [BitVec.toNat_or, ofInt_u64 a (by omega), ofInt_u64 b (by omega)]
 exact IntWalk.i64_in _ (by omega)
theorem whole_eq (s : ByteArray) (h : 4 ≤ s.size) : block_whole.f s = some ((PBlock.unfour (L s) : Nat) : Int) := by
 unfold block_whole.f
 rw [if_pos (by omega), if_pos (by omega), if_pos (by omega), if_pos (by omega)]
 have b0 := bt_getD s 0
 have b1 := bt_getD s 1
 have b2 := bt_getD s 2
 have b3 := bt_getD s 3
 rw [b0, b1, b2, b3]
 unfold PBlock.unfour
 rw [show (0 : Int).toNat = 0 from rfl, show (1 : Int).toNat = 1 from rfl, show (2 : Int).toNat = 2 from rfl, show (3 : Int).toNat = 3 from rfl]
 have l0 : ((L s).getD 0 0).toNat < 256 := UInt8.toNat_lt _
 have l1 : ((L s).getD 1 0).toNat < 256 := UInt8.toNat_lt _
 have l2 : ((L s).getD 2 0).toNat < 256 := UInt8.toNat_lt _
 have l3 : ((L s).getD 3 0).toNat < 256 := UInt8.toNat_lt _
 generalize ((L s).getD 0 0).toNat = a at *
 generalize ((L s).getD 1 0).toNat = b at *
 generalize ((L s).getD 2 0).toNat = c at *
 generalize ((L s).getD 3 0).toNat = d at *
 clear b0 b1 b2 b3
 have w0 : wrap64 (a : Int) = (a : Int) := q0u (by omega) (by omega)
 have w1 : wrap64 (wrap64 (b : Int) * 256) = ((b * 256 : Nat) : Int) := by rw [q0u (x := (b : Int)) (by omega) (by omega), q0u (by omega) (by omega)]; omega
 have w2 : wrap64 (wrap64 (c : Int) * 65536) = ((c * 65536 : Nat) : Int) := by rw [q0u (x := (c : Int)) (by omega) (by omega), q0u (by omega) (by omega)]; omega
 have w3 : wrap64 (wrap64 (d : Int) * 16777216) = ((d * 16777216 : Nat) : Int) := by rw [q0u (x := (d : Int)) (by omega) (by omega), q0u (by omega) (by omega)]; omega
 rw [w0, w1, w2, w3, i64_or_nat a (b * 256) (by omega) (by omega)]
 rw [Nat.or_comm a, nat_join 8 (b * 256) a (by omega) (by omega)]
 rw [i64_or_nat _ (c * 65536) (by omega) (by omega), Nat.or_comm (b * 256 + a), nat_join 16 (c * 65536) (b * 256 + a) (by omega) (by omega)]
 rw [i64_or_nat _ (d * 16777216) (by omega) (by omega), Nat.or_comm (c * 65536 + (b * 256 + a)), nat_join 24 (d * 16777216) _ (by omega) (by omega)]
 congr 2
 omega
theorem whole_at (s : ByteArray) (i : Nat) (h : i + 4 ≤ s.size) : block_whole.f (s.extract i s.size) = some ((PBlock.unfour ((L s).drop i) : Nat) : Int) := by
 rw [whole_eq _ (by rw [ByteArray.size_extract]; omega), L_drop]
theorem parts_loop (s : ByteArray) (hs : s.size ≤ 65536) (n at_ : Nat) (h : at_ + 4 * n + 8 = s.size) (d : Nat) : ∀ (i : Nat) (xs : List Int), i + d = n → xs = (List.range i).map (fun j => ((PBlock.unfour ((L s).drop (at_ + 4 * j)) : Nat) : Int)) →
  Ev (fun k => block_parts.l0 k s xs (at_ : Int) (n : Int) (i : Int)) (B ((L s).take at_), (List.range n).map (fun j => ((PBlock.unfour ((L s).drop (at_ + 4 * j)) : Nat) : Int)), true) := by
 induction d with
 | zero =>
  intro i xs hi hx
  obtain rfl : i = n := by omega
  subst hx
  refine Ev.step (f := fun _ => some (B ((L s).take at_), (List.range i).map (fun j => ((PBlock.unfour ((L s).drop (at_ + 4 * j)) : Nat) : Int)), true)) (fun k => ?_) (Ev.now _)
  simp only [block_parts.l0]
  rw [if_neg (by omega), if_pos (by omega), if_pos (by omega), Int.toNat_natCast, ← L_take, B_L]
 | succ d ih =>
  intro i xs hi hx
  have hlen : xs.length = i := by rw [hx, List.length_map, List.length_range]
  have e1 : wrap64 (4 * (i : Int)) = ((4 * i : Nat) : Int) := by rw [q0u (by omega) (by omega)]; omega
  have e2 : wrap64 ((at_ : Int) + wrap64 (4 * (i : Int))) = ((at_ + 4 * i : Nat) : Int) := by rw [e1, q0u (by omega) (by omega)]; omega
  have e3 : wrap64 ((i : Int) + 1) = ((i + 1 : Nat) : Int) := by rw [q0u (by omega) (by omega)]; omega
  refine Ev.step (fun k => ?_) (ih (i + 1) (xs ++ [((PBlock.unfour ((L s).drop (at_ + 4 * i)) : Nat) : Int)]) (by omega) (by rw [hx, List.range_succ, List.map_append]; rfl))
  simp only [block_parts.l0]
  rw [if_pos (by omega), e2, if_pos (by omega), if_pos (by omega), Int.toNat_natCast, whole_at s _ (by omega), Option.bind_some, if_pos (by omega), e3]
def Sized (l : List UInt8) : Prop := ¬ (l.length < 8 ∨ 65536 < l.length ∨ (l.length - 8) / 4 < PBlock.unfour (l.drop (l.length - 8)))
theorem parts_bad (s : ByteArray) (hs : s.size ≤ 4611686018427387904) (h : ¬ Sized (L s)) : Ev (fun k => block_parts.f k s) ((⟨#[]⟩ : ByteArray), ([] : List Int), false) := by
 unfold Sized at h
 rw [q0g] at h
 unfold block_parts.f
 by_cases h1 : s.size < 8
 ·refine Ev.congr (f := fun k => block_parts.j0 k s ([] : List Int) true) (fun k => by rw [if_pos (by omega)]) ?_
  refine Ev.step (f := fun _ => some ((⟨#[]⟩ : ByteArray), ([] : List Int), false)) (fun k => ?_) (Ev.now _)
  simp only [block_parts.j0, if_true]
 ·by_cases h2 : 65536 < s.size
  ·refine Ev.congr (f := fun k => block_parts.j0 k s ([] : List Int) true) (fun k => by rw [if_neg (by omega), decide_eq_true (by omega)]) ?_
   refine Ev.step (f := fun _ => some ((⟨#[]⟩ : ByteArray), ([] : List Int), false)) (fun k => ?_) (Ev.now _)
   simp only [block_parts.j0, if_true]
  ·have h3 : (s.size - 8) / 4 < PBlock.unfour ((L s).drop (s.size - 8)) := Classical.byContradiction fun g => h (by omega)
   have e1 : wrap64 ((s.size : Int) - 8) = ((s.size - 8 : Nat) : Int) := by rw [q0u (by omega) (by omega)]; omega
   have e2 : wrap64 (Int.tdiv ((s.size - 8 : Nat) : Int) 4) = (((s.size - 8) / 4 : Nat) : Int) := by
    rw [Int.tdiv_eq_ediv_of_nonneg (by omega), q0u (by omega) (by omega)]; omega
   refine Ev.congr (f := fun k => block_parts.j0 k s ([] : List Int) false) (fun k => by rw [if_neg (by omega), decide_eq_false (by omega)]) ?_
   refine Ev.step (f := fun _ => some ((⟨#[]⟩ : ByteArray), ([] : List Int), false)) (fun k => ?_) (Ev.now _)
   simp only [block_parts.j0]
   rw [if_neg (by simp), e1, e2, if_pos (by omega), if_pos (by omega), Int.toNat_natCast, whole_at s _ (by omega), Option.bind_some, if_pos (by omega)]
theorem parts_good (s : ByteArray) (h : Sized (L s)) : Ev (fun k => block_parts.f k s) (B (PBlock.body (L s)), (PBlock.restarts (L s)).map (fun n : Nat => (n : Int)), true) := by
 unfold Sized at h
 rw [q0g] at h
 have h1 : 8 ≤ s.size := Classical.byContradiction fun g => h (.inl (by omega))
 have h2 : s.size ≤ 65536 := Classical.byContradiction fun g => h (.inr (.inl (by omega)))
 have h3 : ¬ (s.size - 8) / 4 < PBlock.unfour ((L s).drop (s.size - 8)) := fun g => h (.inr (.inr g))
 unfold block_parts.f PBlock.body PBlock.restarts
 rw [q0g]
 have e1 : wrap64 ((s.size : Int) - 8) = ((s.size - 8 : Nat) : Int) := by rw [q0u (by omega) (by omega)]; omega
 have e2 : wrap64 (Int.tdiv ((s.size - 8 : Nat) : Int) 4) = (((s.size - 8) / 4 : Nat) : Int) := by
  rw [Int.tdiv_eq_ediv_of_nonneg (by omega), q0u (by omega) (by omega)]; omega
 have hw := whole_at s (s.size - 8) (by omega)
 generalize PBlock.unfour ((L s).drop (s.size - 8)) = n at *
 have e3 : wrap64 (((s.size - 8 : Nat) : Int) - wrap64 (4 * (n : Int))) = ((s.size - 8 - 4 * n : Nat) : Int) := by
  rw [q0u (x := 4 * (n : Int)) (by omega) (by omega), q0u (by omega) (by omega)]; omega
 refine Ev.congr (f := fun k => block_parts.j0 k s ([] : List Int) false) (fun k => by rw [if_neg (by omega), decide_eq_false (by omega)]) ?_
 refine Ev.step (fun k => ?_) (f := fun k => block_parts.l0 k s ([] : List Int) ((s.size - 8 - 4 * n : Nat) : Int) (n : Int) ((0 : Nat) : Int)) ?_
 ·simp only [block_parts.j0]
  rw [if_neg (by simp), e1, e2, if_pos (by omega), if_pos (by omega), Int.toNat_natCast, hw, Option.bind_some, if_neg (by omega), e3]
  rfl
 ·have := parts_loop s h2 n (s.size - 8 - 4 * n) (by omega) n 0 [] (by omega) rfl
  rw [List.map_map]
  exact this
theorem rowS_rowB (r : PBlock.Row) : rowS (rowB r) = r := by
 cases r; simp [rowS, rowB, L_B]
def tailOf (s : List UInt8) (xs : List S28) : Option (List PBlock.Row) → List S28 × Int
 | none => ([], 7)
 | some l => if PBlock.build (xs.map rowS ++ l) (PBlock.unfour (s.drop (s.length - 4)) : Int) = (s, 0) then (xs ++ l.map rowB, 0) else ([], 7)
theorem rows_end (s b : ByteArray) (h8 : 8 ≤ s.size) (hs : s.size ≤ 65536) (xs : List S28) (last : ByteArray) (hx : ∀ x ∈ xs, 0 ≤ x.f1 ∧ x.f1 < 18446744073709551616) (hn : xs.length ≤ 1024) (k : Nat) :
  block_Rows.l0 (k + 1) s b xs last (b.size : Int) = some (tailOf (L s) xs (some [])) := by
 have e1 : wrap64 ((s.size : Int) - 4) = ((s.size - 4 : Nat) : Int) := by rw [q0u (by omega) (by omega)]; omega
 have hu := PBlock.unfour_lt ((L s).drop (s.size - 4))
 have hb := block_Build.eq xs ((PBlock.unfour ((L s).drop (s.size - 4)) : Nat) : Int) ⟨hx, by omega, by omega, by omega⟩
 have hw := whole_at s (s.size - 4) (by omega)
 unfold tailOf
 rw [q0g]
 simp only [block_Rows.l0]
 rw [if_neg (by omega), e1, if_pos (by omega), if_pos (by omega), Int.toNat_natCast, hw, Option.bind_some, hb, Option.bind_some, List.append_nil, List.map_nil, List.append_nil]
 dsimp only
 generalize PBlock.build (xs.map rowS) ((PBlock.unfour ((L s).drop (s.size - 4)) : Nat) : Int) = r
 obtain ⟨y, e⟩ := r
 dsimp only
 by_cases he : e = 0
 ·subst he
  rw [if_pos (show ((0 : Nat) : Int) = 0 from rfl)]
  by_cases hy : y = L s
  ·subst hy
   rw [if_pos (by rw [B_L]), if_pos rfl]
  ·rw [if_neg (fun h => hy (by rw [L_toList, L_toList, L_B] at h; exact h)), if_neg (by simp [hy])]
 ·rw [if_neg (by omega), if_neg (by simp [he])]
theorem rows_loop (s b : ByteArray) (h8 : 8 ≤ s.size) (hs : s.size ≤ 65536) (hb : b.size ≤ 65536) (d : Nat) : ∀ (at_ fuel : Nat) (xs : List S28) (last : ByteArray), b.size - at_ ≤ d → at_ ≤ b.size → b.size - at_ < fuel → (∀ x ∈ xs, 0 ≤ x.f1 ∧ x.f1 < 18446744073709551616) →
  xs.length ≤ 1024 → last.size ≤ 520 * xs.length → Ev (fun k => block_Rows.l0 k s b xs last (at_ : Int)) (tailOf (L s) xs (PBlock.decode fuel ((L b).drop at_) (L last) xs.length)) := by
 induction d with
 | zero =>
  intro at_ fuel xs last hd ha hf hx hn hl
  obtain ⟨fuel, rfl⟩ : ∃ m, fuel = m + 1 := ⟨fuel - 1, by omega⟩
  obtain rfl : at_ = b.size := by omega
  rw [show (L b).drop b.size = [] from List.drop_eq_nil_of_le (by rw [q0g]; omega), PBlock.decode_end]
  exact Ev.step (fun k => rows_end s b h8 hs xs last hx hn k) (Ev.now _)
 | succ d ih =>
  intro at_ fuel xs last hd ha hf hx hn hl
  obtain ⟨fuel, rfl⟩ : ∃ m, fuel = m + 1 := ⟨fuel - 1, by omega⟩
  by_cases h0 : at_ = b.size
  ·subst h0
   rw [show (L b).drop b.size = [] from List.drop_eq_nil_of_le (by rw [q0g]; omega), PBlock.decode_end]
   exact Ev.step (fun k => rows_end s b h8 hs xs last hx hn k) (Ev.now _)
  have hlt : at_ < b.size := by omega
  have hne : (L b).drop at_ ≠ [] := by
   intro e
   have := congrArg List.length e
   rw [List.length_drop, q0g, List.length_nil] at this; omega
  have hr := block_read.eq (b.extract at_ b.size) last ⟨by rw [ByteArray.size_extract]; omega, by omega⟩
  rw [L_drop] at hr
  have hgo : ∀ (R : List S28 × Int) (f : Nat → Option (List S28 × Int)), (∀ k, (if (readN (PBlock.read ((L b).drop at_) (L last)) : Int) = 0 then (some (([] : List S28), (7 : Int))) else (if (xs.length : Int) = 1024 then (some (([] : List S28), 7)) else (if xs.length < 2932031007402 then (block_Rows.l0 k s b (xs ++ [readR (PBlock.read ((L b).drop at_) (L last))]) (readR (PBlock.read ((L b).drop at_) (L last))).f0 (wrap64 ((at_ : Int) + (readN (PBlock.read ((L b).drop at_) (L last)) : Int)))) else none))) = f k) → Ev f R → Ev (fun k => block_Rows.l0 k s b xs last (at_ : Int)) R := by
   intro R f hk hE
   refine Ev.step (fun k => ?_) hE
   simp only [block_Rows.l0]
   rw [if_pos (by omega), if_pos (by omega), if_pos (by omega), Int.toNat_natCast, hr, Option.bind_some]
   exact hk k
  cases hrd : PBlock.read ((L b).drop at_) (L last) with
  | none =>
   rw [PBlock.decode_bad hne hrd]
   refine hgo _ (fun _ => some ([], 7)) (fun k => ?_) (Ev.now _)
   rw [hrd]
   rw [if_pos (show ((readN none : Nat) : Int) = 0 from rfl)]
  | some x =>
   obtain ⟨r, n⟩ := x
   have hbd := PBlock.read_bounds hrd
   rw [List.length_drop, q0g, q0g] at hbd
   by_cases h1 : xs.length = 1024
   ·rw [PBlock.decode_many hne hrd h1]
    refine hgo _ (fun _ => some ([], 7)) (fun k => ?_) (Ev.now _)
    rw [hrd]
    rw [if_neg (show ¬ (((readN (some (r, n)) : Nat) : Int) = 0) from by show ¬ ((n : Int) = 0); omega), if_pos (by omega)]
   ·rw [PBlock.decode_go hne hrd h1, List.drop_drop]
    have hI := ih (at_ + n) fuel (xs ++ [rowB r]) (B r.key) (by omega) (by omega) (by omega) ?_ (by rw [List.length_append, List.length_singleton]; omega) (by rw [q0n, List.length_append, List.length_singleton]; omega)
    ·have ew : wrap64 ((at_ : Int) + (n : Int)) = ((at_ + n : Nat) : Int) := by rw [q0u (by omega) (by omega)]; omega
     refine hgo _ (fun k => block_Rows.l0 k s b (xs ++ [rowB r]) (B r.key) ((at_ + n : Nat) : Int)) (fun k => ?_) ?_
     ·rw [hrd]
      show (if (n : Int) = 0 then _ else (if (xs.length : Int) = 1024 then _ else (if xs.length < _ then block_Rows.l0 k s b (xs ++ [rowB r]) (B r.key) (wrap64 ((at_ : Int) + (n : Int))) else none))) = _
      rw [if_neg (by omega), if_neg (by omega), if_pos (by omega), ew]
     ·rw [L_B, List.length_append, List.length_singleton] at hI
      cases hdc : PBlock.decode fuel ((L b).drop (at_ + n)) r.key (xs.length + 1) with
      | none => rw [hdc] at hI; exact hI
      | some l =>
       rw [hdc] at hI
       simp only [tailOf, Option.map_some] at hI ⊢
       rw [List.map_append, List.map_cons, List.map_nil, rowS_rowB, List.append_assoc, List.append_assoc] at hI
       exact hI
    ·intro x hx2
     rcases List.mem_append.1 hx2 with h | h
     ·exact hx x h
     ·rw [List.mem_singleton.1 h]
      exact ⟨by show (0 : Int) ≤ (r.seq : Int); omega, by show (r.seq : Int) < _; omega⟩
def rowsR (s : List UInt8) : List S28 × Int := ((PBlock.rows s).1.map rowB, ((PBlock.rows s).2 : Int))
theorem rows_ev (s : ByteArray) (hs : s.size ≤ 4611686018427387904) : Ev (fun k => block_Rows.f k s) (rowsR (L s)) := by
 unfold block_Rows.f rowsR
 by_cases h : Sized (L s)
 ·refine Ev.bind (parts_good s h) ?_
  have h2 := h
  unfold Sized at h2
  rw [q0g] at h2
  have h8 : 8 ≤ s.size := Classical.byContradiction fun g => h2 (.inl (by omega))
  have h65 : s.size ≤ 65536 := Classical.byContradiction fun g => h2 (.inr (.inl (by omega)))
  have hbl : (PBlock.body (L s)).length ≤ s.size := by unfold PBlock.body; rw [List.length_take, q0g]; omega
  have hl := rows_loop s (B (PBlock.body (L s))) h8 h65 (by rw [q0n]; omega) _ 0 (s.size + 1) [] ⟨#[]⟩ (Nat.le_refl _) (by omega) (by rw [q0n]; omega) (by simp) (by simp) (Nat.le_refl 0)
  rw [List.drop_zero, L_B] at hl
  refine Ev.congr (f := fun k => block_Rows.l0 k s (B (PBlock.body (L s))) [] ⟨#[]⟩ ((0 : Nat) : Int)) (fun k => by rw [if_pos rfl]; rfl) ?_
  cases hd : PBlock.decode (s.size + 1) (PBlock.body (L s)) [] 0 with
  | none =>
   have hl2 : Ev (fun k => block_Rows.l0 k s (B (PBlock.body (L s))) [] ⟨#[]⟩ ((0 : Nat) : Int)) (tailOf (L s) [] (PBlock.decode (s.size + 1) (PBlock.body (L s)) [] 0)) := hl
   rw [hd] at hl2
   rw [PBlock.rows_none h (by rw [q0g]; exact hd)]
   exact hl2
  | some l =>
   have hl2 : Ev (fun k => block_Rows.l0 k s (B (PBlock.body (L s))) [] ⟨#[]⟩ ((0 : Nat) : Int)) (tailOf (L s) [] (PBlock.decode (s.size + 1) (PBlock.body (L s)) [] 0)) := hl
   rw [hd] at hl2
   unfold tailOf at hl2
   simp only [List.map_nil, List.nil_append] at hl2
   rw [PBlock.rows_some h (by rw [q0g]; exact hd)]
   by_cases hb : PBlock.build l (PBlock.unfour ((L s).drop ((L s).length - 4)) : Int) = (L s, 0)
   ·rw [if_pos hb] at hl2 ⊢
    exact hl2
   ·rw [if_neg hb] at hl2 ⊢
    exact hl2
 ·have h2 : (L s).length < 8 ∨ 65536 < (L s).length ∨ ((L s).length - 8) / 4 < PBlock.unfour ((L s).drop ((L s).length - 8)) := Classical.byContradiction fun g => h g
  refine Ev.bind (parts_bad s hs h) ?_
  rw [PBlock.rows_bad h2]
  refine Ev.congr (f := fun _ => some ([], 7)) (fun k => by rw [if_neg (by simp)]) (Ev.now _)
end Go.Proofs.Ytaigmemmgjlhgaa.Block
