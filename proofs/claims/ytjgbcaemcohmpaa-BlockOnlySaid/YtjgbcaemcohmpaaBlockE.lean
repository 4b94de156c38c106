/- block.Build, walked. -/
import Derived.Test.YtjgbcaemcohmpaaBlockD
import Derived.Test.YtjgbcaemcohmpaaPBlock2
import Derived.Deep.RegionHeld3
import Derived.StillTailTactics
namespace Go.Proofs.Ytjgbcaemcohmpaa.Block
open Go.RowKit Aid Txt Print Go.Proofs.YtjgbcaemcohmpaaW.PrintWords
set_option maxRecDepth 100000 in
set_option maxHeartbeats 8000000 in
theorem build_any (l : List S31) (hl : ∀ x ∈ l, Fit x) (hs : l.length ≤ 9223372036854775806) (A0 : Option Addr) (c0 : Nat) (restart : Int) (r0 : -9223372036854775808 ≤ restart) (r1 : restart ≤ 9223372036854775807) (w : World) (hr0 : Kd.C k31 w A0 l.length l) (hc0 : l.length ≤ c0) :
    Calls Try.prog 12 #[.slice A0 l.length c0, .int .i64 restart] w fun e w' => e = .returned (.tuple #[.string (B (PBlock.build (l.map rowS) restart).1), .int .i64 ((PBlock.build (l.map rowS) restart).2 : Nat)]) ∧ Below w.heap.size w w' := by
  have HL := Lib.hid hl
  have HR := Lib.hid hr0
  clear hl hr0
  by_cases hbig : (1024 : Int) < (l.length : Int)
  · have t0 : decide ((1024 : Int) < (l.length : Int)) = true := decide_eq_true hbig
    go_enter Try.func12, Try.ntmps12
    go_wp2_with fail
    go_loopw [6, 21] (fun v6 v21 wr => ∃ i : Nat, i ≤ l.length ∧ v6 = .int .i64 3 ∧ v21 = .int .i64 i ∧ (∀ x ∈ l.take i, PBlock.check (rowS x) ≠ 2) ∧ Below w.heap.size w wr) (fun _ v21 _ => l.length - (intOf v21).toNat)
    case atStart => exact ⟨0, by omega, rfl, rfl, by simp, Below.refl _ _⟩
    case round =>
      obtain ⟨i, hi, rfl, rfl, hall, hB⟩ := hrel
      by_cases hlt : i < l.length
      · have t1 : decide ((i : Int) < (l.length : Int)) = true := decide_eq_true (by omega)
        obtain ⟨ad, rfl, k0, k1, k2, k3⟩ := at_T31 (Kd.C_below HR.out hB) (i : Int) (by omega) (by omega)
        rw [at_S31 l i hlt, Int.toNat_natCast] at k0 k1 k2 k3
        go_wp2_with fail
        refine (check_any l[i] (HL.out _ (List.getElem_mem _)) _).mono ?_
        rintro e w2 ⟨rfl, hb⟩
        have hB2 : Below w.heap.size w w2 := below_then (hB.alloc hB.size _) hb
        rcases check_cases (rowS l[i]) with hc | hc | hc
        · rw [hc]
          go_wp2_with fail
          go_roundw
          case rel => exact ⟨i + 1, by omega, rfl, by go_num, by rw [List.take_succ_eq_append_getElem hlt]; intro x hx; rcases List.mem_append.1 hx with hx | hx; exact hall x hx; rw [List.mem_singleton.1 hx, hc]; omega, hB2⟩
          case measure => simp [intOf]; omega
        · rw [hc]
          go_wp2_with fail
          go_ret2
          rw [build_two (.inr (.inr (.inr ⟨rowS l[i], List.mem_map_of_mem (List.getElem_mem _), hc⟩)))]
          exact ⟨rfl, hB2⟩
        · rw [hc]
          go_wp2_with fail
          go_roundw
          case rel => exact ⟨i + 1, by omega, rfl, by go_num, by rw [List.take_succ_eq_append_getElem hlt]; intro x hx; rcases List.mem_append.1 hx with hx | hx; exact hall x hx; rw [List.mem_singleton.1 hx, hc]; omega, hB2⟩
          case measure => simp [intOf]; omega
      · have t1 : decide ((i : Int) < (l.length : Int)) = false := decide_eq_false (by omega)
        obtain rfl : i = l.length := by omega
        rw [List.take_length] at hall
        have hno : ¬ ∃ r ∈ l.map rowS, PBlock.check r = 2 := by
          rintro ⟨r, hr, e⟩
          obtain ⟨x, hx, rfl⟩ := List.mem_map.1 hr
          exact hall x hx e
        by_cases ca : restart < 1
        · have ta : decide (restart < 1) = true := decide_eq_true ca
          go_wp2_with fail
          go_ret2
          rw [build_two (.inl ca)]
          exact ⟨rfl, hB⟩
        · have ta : decide (restart < 1) = false := decide_eq_false ca
          by_cases cb : 64 < restart
          · have tb : decide (64 < restart) = true := decide_eq_true cb
            go_wp2_with fail
            go_ret2
            rw [build_two (.inr (.inl cb))]
            exact ⟨rfl, hB⟩
          · have tb : decide (64 < restart) = false := decide_eq_false cb
            go_wp2_with fail
            refine (order_any l HL.out hs A0 c0 _ (Kd.C_below HR.out hB) hc0).mono ?_
            rintro e w3 ⟨rfl, hb3⟩
            cases ho : PBlock.order (l.map rowS) with
            | false =>
              go_wp2_with fail
              go_ret2
              rw [build_two (.inr (.inr (.inl ho)))]
              exact ⟨rfl, below_then hB hb3⟩
            | true =>
              go_wp2_with fail
              go_ret2
              rw [build_three (by rintro (h | h | h | h) <;> first | omega | exact hno h | (rw [ho] at h; cases h)) (.inl (by rw [List.length_map]; omega))]
              exact ⟨rfl, below_then hB hb3⟩
  · have t0 : decide ((1024 : Int) < (l.length : Int)) = false := decide_eq_false hbig
    go_enter Try.func12, Try.ntmps12
    go_wp2_with fail
    go_loopw [6, 21] (fun v6 v21 wr => ∃ i : Nat, i ≤ l.length ∧ v6 = .int .i64 (worst l.length ((l.take i).map rowS) : Nat) ∧ v21 = .int .i64 i ∧ (∀ x ∈ l.take i, PBlock.check (rowS x) ≠ 2) ∧ Below w.heap.size w wr) (fun _ v21 _ => l.length - (intOf v21).toNat)
    case atStart => exact ⟨0, by omega, by unfold worst; rw [if_neg (by simp; omega)]; rfl, rfl, by simp, Below.refl _ _⟩
    case round =>
      obtain ⟨i, hi, rfl, rfl, hall, hB⟩ := hrel
      by_cases hlt : i < l.length
      · have t1 : decide ((i : Int) < (l.length : Int)) = true := decide_eq_true (by omega)
        obtain ⟨ad, rfl, k0, k1, k2, k3⟩ := at_T31 (Kd.C_below HR.out hB) (i : Int) (by omega) (by omega)
        rw [at_S31 l i hlt, Int.toNat_natCast] at k0 k1 k2 k3
        have hw1 : ∀ c, PBlock.check (rowS l[i]) = c → c ≠ 2 → worst l.length ((l.take (i + 1)).map rowS) = max (worst l.length ((l.take i).map rowS)) c := by
          intro c hc h2
          rw [List.take_succ_eq_append_getElem hlt, List.map_append, List.map_cons, List.map_nil, worst_snoc _ _ _ (by rw [hc]; exact h2), hc]
        have HW1 := Lib.hid hw1
        clear hw1
        have hwl := worst_le l.length ((l.take i).map rowS)
        generalize worst l.length ((l.take i).map rowS) = q0 at hwl HW1 ⊢
        go_wp2_with fail
        refine (check_any l[i] (HL.out _ (List.getElem_mem _)) _).mono ?_
        rintro e w2 ⟨rfl, hb⟩
        have hB2 : Below w.heap.size w w2 := below_then (hB.alloc hB.size _) hb
        rcases hwl with rfl | rfl
        all_goals
          rcases check_cases (rowS l[i]) with hc | hc | hc
          · rw [hc]
            go_wp2_with fail
            go_roundw
            case rel => exact ⟨i + 1, by omega, by rw [HW1.out _ hc (by omega)]; rfl, by go_num, by rw [List.take_succ_eq_append_getElem hlt]; intro x hx; rcases List.mem_append.1 hx with hx | hx; exact hall x hx; rw [List.mem_singleton.1 hx, hc]; omega, hB2⟩
            case measure => simp [intOf]; omega
          · rw [hc]
            go_wp2_with fail
            go_ret2
            rw [build_two (.inr (.inr (.inr ⟨rowS l[i], List.mem_map_of_mem (List.getElem_mem _), hc⟩)))]
            exact ⟨rfl, hB2⟩
          · rw [hc]
            go_wp2_with fail
            go_roundw
            case rel => exact ⟨i + 1, by omega, by rw [HW1.out _ hc (by omega)]; rfl, by go_num, by rw [List.take_succ_eq_append_getElem hlt]; intro x hx; rcases List.mem_append.1 hx with hx | hx; exact hall x hx; rw [List.mem_singleton.1 hx, hc]; omega, hB2⟩
            case measure => simp [intOf]; omega
      · have t1 : decide ((i : Int) < (l.length : Int)) = false := decide_eq_false (by omega)
        obtain rfl : i = l.length := by omega
        rw [List.take_length] at hall ⊢
        have hno : ¬ ∃ r ∈ l.map rowS, PBlock.check r = 2 := by
          rintro ⟨r, hr, e⟩
          obtain ⟨x, hx, rfl⟩ := List.mem_map.1 hr
          exact hall x hx e
        by_cases ca : restart < 1
        · have ta : decide (restart < 1) = true := decide_eq_true ca
          go_wp2_with fail
          go_ret2
          rw [build_two (.inl ca)]
          exact ⟨rfl, hB⟩
        · have ta : decide (restart < 1) = false := decide_eq_false ca
          by_cases cb : 64 < restart
          · have tb : decide (64 < restart) = true := decide_eq_true cb
            go_wp2_with fail
            go_ret2
            rw [build_two (.inr (.inl cb))]
            exact ⟨rfl, hB⟩
          · have tb : decide (64 < restart) = false := decide_eq_false cb
            go_wp2_with fail
            refine (order_any l HL.out hs A0 c0 _ (Kd.C_below HR.out hB) hc0).mono ?_
            rintro e w3 ⟨rfl, hb3⟩
            cases ho : PBlock.order (l.map rowS) with
            | false =>
              go_wp2_with fail
              go_ret2
              rw [build_two (.inr (.inr (.inl ho)))]
              exact ⟨rfl, below_then hB hb3⟩
            | true =>
              have hgood : ¬ (restart < 1 ∨ 64 < restart ∨ PBlock.order (l.map rowS) = false ∨ ∃ r ∈ l.map rowS, PBlock.check r = 2) := by
                rintro (h | h | h | h) <;> first | omega | exact hno h | (rw [ho] at h; cases h)
              have hwl := worst_le l.length (l.map rowS)
              obtain ⟨q0, hq0⟩ : ∃ q0, q0 = worst l.length (l.map rowS) := ⟨_, rfl⟩
              rw [← hq0] at hwl ⊢
              have HQ := Lib.hid hq0
              have HG := Lib.hid hgood
              have HN := Lib.hid hno
              clear hq0 hgood hno hall
              rcases hwl with rfl | rfl
              · have hall0 := worst_zero HQ.out HN.out
                obtain ⟨R, rfl⟩ := Int.eq_ofNat_of_zero_le (show 0 ≤ restart by omega)
                have hB3 : Below w.heap.size w w3 := below_then hB hb3
                have HK := Lib.hid hall0.2
                have hn := hall0.1
                clear hall0 HN hb3 hB
                go_wp2_with fail
                have pO := Blk.new w3 42 #[.slice none 0 0]
                have lO := hB3.alloc hB3.size (.cells #[.slice none 0 0] 42)
                have gO := hB3.size
                refine (writer_any w _ _ pO gO lO).mono ?_
                rintro e w4 ⟨rfl, h3⟩
                clear pO lO
                generalize (World.alloc w3 _).heap.size + 1 = b2 at h3 ⊢
                generalize (World.alloc w3 _).heap.size = b3 at h3 ⊢
                generalize w3.heap.size = b1 at h3 gO ⊢
                clear hB3
                go_wp2_with fail
                go_loopw [11, 51] (fun v11 v51 wx => ∃ (i : Nat) (v : Value) (last : ByteArray), i ≤ l.length ∧ v11 = .string (B (PBlock.fours (PBlock.ends R 0 0 [] ((l.take i).map rowS)))) ∧ v51 = .int .i64 i ∧ W3 w wx b1 b2 b3 v (B (PBlock.enc R 0 [] ((l.take i).map rowS))) last ∧ L last = PBlock.lastOf [] ((l.take i).map rowS) ∧ (PBlock.enc R 0 [] ((l.take i).map rowS)).length ≤ 65536) (fun _ v51 _ => l.length - (intOf v51).toNat)
                case atStart => exact ⟨0, _, _, by omega, rfl, rfl, h3, rfl, by simp [PBlock.enc]⟩
                case round =>
                  clear h3
                  obtain ⟨i, v, last, hi2, rfl, rfl, hW, hlast, henc⟩ := hrel
                  by_cases hlt2 : i < l.length
                  · have t2 : decide ((i : Int) < (l.length : Int)) = true := decide_eq_true (by omega)
                    obtain ⟨ad, rfl, k0, k1, k2, k3⟩ := at_T31 (Kd.C_below HR.out hW.low) (i : Int) (by omega) (by omega)
                    rw [at_S31 l i hlt2, Int.toNat_natCast] at k0 k1 k2 k3
                    have hs1 : (l.take (i + 1)).map rowS = (l.take i).map rowS ++ [rowS l[i]] := by rw [List.take_succ_eq_append_getElem hlt2, List.map_append, List.map_cons, List.map_nil]
                    have hlen : ((l.take i).map rowS).length = i := by rw [List.length_map, List.length_take]; omega
                    have hX := PBlock.enc_snoc R ((l.take i).map rowS) (rowS l[i]) 0 []
                    have hE := PBlock.ends_snoc R ((l.take i).map rowS) (rowS l[i]) 0 0 []
                    have hLa := PBlock.lastOf_snoc [] ((l.take i).map rowS) (rowS l[i])
                    rw [hlen, Nat.zero_add, ← hs1] at hX hE
                    rw [← hs1] at hLa
                    rw [← hlast] at hX
                    have hck := HK.out (rowS l[i]) (List.mem_map_of_mem (List.getElem_mem _))
                    have hbd := PBlock.check_ok hck
                    have hf := HL.out l[i] (List.getElem_mem _)
                    have hll : (L last).length ≤ 520 := by
                      rw [hlast]
                      by_cases h0 : i = 0
                      · subst h0; simp [PBlock.lastOf]
                      · obtain ⟨j, rfl⟩ : ∃ j, i = j + 1 := ⟨i - 1, by omega⟩
                        rw [List.take_succ_eq_append_getElem (by omega), List.map_append, List.map_cons, List.map_nil, PBlock.lastOf_snoc]
                        exact (PBlock.check_ok (HK.out (rowS l[j]) (List.mem_map_of_mem (List.getElem_mem _)))).2.2.2.2.2.1
                    have hkl : (l[i]).f0.size ≤ 520 := by rw [← L_length]; exact hbd.2.2.2.2.2.1
                    have hvl : (l[i]).f3.size ≤ 2048 := by rw [← L_length]; exact hbd.2.2.2.2.2.2
                    have hrl := PBlock.rowEnc_le (rowS l[i]) (if i % R = 0 then [] else L last) hck
                    obtain ⟨x0, x1, x2, x3, hx⟩ : ∃ (x0 : ByteArray) (x1 x2 : Int) (x3 : ByteArray), l[i] = ⟨x0, x1, x2, x3⟩ := ⟨_, _, _, _, rfl⟩
                    have hfar : 65536 < (PBlock.enc R 0 [] ((l.take (i + 1)).map rowS)).length → PBlock.build (l.map rowS) (R : Int) = ([], 3) := fun h => PBlock.build_far HG.out (n := i + 1) (by rw [Int.toNat_natCast, ← List.map_take]; exact h)
                    rw [hx] at k0 k1 k2 k3 hX hLa hkl hvl hf hrl
                    have HLa := Lib.hid hLa
                    have hel := PBlock.ends_length_le R ((l.take i).map rowS) 0 0 []
                    rw [hlen] at hel
                    clear hLa hlast hbd hck hs1 hlen
                    obtain ⟨X', eX⟩ : ∃ X', PBlock.enc R 0 [] ((l.take (i + 1)).map rowS) = X' := ⟨_, rfl⟩
                    obtain ⟨E', eE⟩ : ∃ E', PBlock.ends R 0 0 [] ((l.take (i + 1)).map rowS) = E' := ⟨_, rfl⟩
                    rw [eX] at hX hfar
                    have HF := Lib.hid hfar
                    clear hfar
                    rw [eE] at hE
                    have HEX := Lib.hid eX
                    have HEE := Lib.hid eE
                    clear eX eE
                    generalize PBlock.enc R 0 [] ((l.take i).map rowS) = X at *
                    generalize PBlock.ends R 0 0 [] ((l.take i).map rowS) = E at *
                    have z1 : (B (PBlock.fours E)).size ≤ 4096 := by rw [size_B, PBlock.fours_length]; omega
                    have z2 : (B (PBlock.four X.length)).size = 4 := by rw [size_B]; rfl
                    have P4 := fun w' => four_any X.length w'
                    have hcat : B (PBlock.fours (E ++ [0 + X.length])) = B (PBlock.fours E) ++ B (PBlock.four X.length) := by
                      apply L_inj
                      rw [L_append, L_B, L_B, L_B, PBlock.fours_append, Nat.zero_add]
                      simp [PBlock.fours]
                    have HC := Lib.hid hcat
                    have HP4 := Lib.hid P4
                    clear hcat P4
                    obtain ⟨te, ht⟩ : ∃ te, te = B (PBlock.fours E) := ⟨_, rfl⟩
                    rw [← ht] at z1 HC ⊢
                    have HT := Lib.hid (congrArg Value.string ht)
                    clear ht
                    generalize B (PBlock.four X.length) = tf at z2 HC HP4
                    have zc : (9223372036854775807 < te.size + tf.size) = False := eq_false (by omega)
                    have HZ1 := Lib.hid z1
                    have HZ2 := Lib.hid z2
                    clear z1 z2
                    have hfr : (R : Int) ≠ 0 := by omega
                    obtain ⟨A1, m1, c1, rfl⟩ := own_slice hW.row
                    obtain rfl : m1 = X.length := by rw [W3.size hW, size_B]
                    have cO := (hW.out.cell 0).trans rfl
                    have hO := hW.out.lt
                    by_cases hz : i % R = 0
                    · rw [if_pos hz] at hX hE hrl
                      have t3 : ((i : Int) % (R : Int) == 0) = true := by rw [show ((i : Int) % (R : Int)) = ((i % R : Nat) : Int) from rfl, hz]; rfl
                      have HX := Lib.hid hX
                      have HE := Lib.hid hE
                      have HZ := Lib.hid hrl
                      clear hX hE hrl hz
                      go_wp2_with fail
                      refine (HP4.out _).mono ?_
                      rintro e w5 ⟨rfl, hb5⟩
                      have hW5 : W3 w w5 b1 b2 b3 (Value.slice A1 X.length c1) (B X) last := (hW.alloc _).below hb5
                      have hI5 := (Blk.new wr 31 #[.string x0, .int .u64 x1, .int .i64 x2, .string x3]).below hb5 (by simp)
                      go_wp2_with fail
                      have d0 := (hI5.cell 0).trans rfl
                      have d1 := (hI5.cell 1).trans rfl
                      have d2 := (hI5.cell 2).trans rfl
                      have d3 := (hI5.cell 3).trans rfl
                      have hR0 : (R = 0) = False := eq_false (by omega)
                      have htm : (i : Int).tmod (R : Int) = (i : Int) % (R : Int) := Int.tmod_eq_emod_of_nonneg (by omega)
                      go_still_tail 6, (by kernel_rfl)
                      clear hR0 htm
                      change wpList _ _ _ _ _ w5.drew
                      have hW6 := hW5.drew
                      have hb6 : Below w.heap.size w w5.drew := hW6.low
                      generalize w5.drew = w6 at hW6 ⊢
                      clear d0 d1 d2 d3 hW5 hI5 hb5
                      go_wp2_with fail
                      refine (write_first w w6 b1 b2 b3 _ _ last x0 x3 x1 x2 hW6 hkl hvl (by rw [size_B]; omega) hf.s0 hf.s1).mono ?_
                      rintro e w7 ⟨rfl, v7, hW7⟩
                      have hBX : B X ++ B (PBlock.rowEnc (rowOf x0 x1 x2 x3) []) = B X' := by
                        apply L_inj; rw [L_append, L_B, L_B, L_B, HX.out]; rfl
                      rw [hBX] at hW7
                      clear hBX hW6
                      obtain ⟨A7, m7, c7, rfl⟩ := own_slice hW7.row
                      obtain rfl : m7 = X'.length := by rw [W3.size hW7, size_B]
                      have cO7 := (hW7.out.cell 0).trans rfl
                      have hO7 := hW7.out.lt
                      by_cases hbg : 65536 < X'.length
                      · have t7 : decide ((65536 : Int) < (X'.length : Int)) = true := decide_eq_true (by omega)
                        go_wp2_with fail
                        go_ret2
                        rw [HF.out hbg]
                        exact ⟨rfl, hW7.low⟩
                      · have t7 : decide ((65536 : Int) < (X'.length : Int)) = false := decide_eq_false (by omega)
                        go_wp2_with fail
                        go_roundw
                        case rel => exact ⟨i + 1, _, x0, by omega, by rw [HEE.out, HE.out, HC.out], by go_num, by rw [HEX.out]; exact hW7, by rw [HLa.out]; rfl, by rw [HEX.out]; omega⟩
                        case measure => simp [intOf]; omega
                    · rw [if_neg hz] at hX hE hrl
                      rw [List.append_nil] at hE
                      have t3 : ((i : Int) % (R : Int) == 0) = false := by rw [show ((i : Int) % (R : Int)) = ((i % R : Nat) : Int) from rfl]; exact beq_eq_false_iff_ne.2 (by omega)
                      have HX := Lib.hid hX
                      have HE := Lib.hid hE
                      have HZ := Lib.hid hrl
                      clear hX hE hrl hz
                      have hW5 : W3 w (wr.alloc (.cells #[.string x0, .int .u64 x1, .int .i64 x2, .string x3] 31)) b1 b2 b3 (Value.slice A1 X.length c1) (B X) last := hW.alloc _
                      have hI5 := Blk.new wr 31 #[.string x0, .int .u64 x1, .int .i64 x2, .string x3]
                      go_wp2_with fail
                      generalize wr.alloc _ = w5 at hW5 hI5 ⊢
                      have d0 := (hI5.cell 0).trans rfl
                      have d1 := (hI5.cell 1).trans rfl
                      have d2 := (hI5.cell 2).trans rfl
                      have d3 := (hI5.cell 3).trans rfl
                      have hR0 : (R = 0) = False := eq_false (by omega)
                      have htm : (i : Int).tmod (R : Int) = (i : Int) % (R : Int) := Int.tmod_eq_emod_of_nonneg (by omega)
                      go_still_tail 6, (by kernel_rfl)
                      clear hR0 htm
                      change wpList _ _ _ _ _ w5.drew
                      have hW6 := hW5.drew
                      have hb6 : Below w.heap.size w w5.drew := hW6.low
                      generalize w5.drew = w6 at hW6 ⊢
                      clear d0 d1 d2 d3 hW5 hI5
                      go_wp2_with fail
                      refine (write_next w w6 b1 b2 b3 _ _ last x0 x3 x1 x2 hW6 hkl hvl (by rw [size_B]; omega) (by rw [← L_length]; exact hll) hf.s0 hf.s1).mono ?_
                      rintro e w7 ⟨rfl, v7, hW7⟩
                      have hBX : B X ++ B (PBlock.rowEnc (rowOf x0 x1 x2 x3) (L last)) = B X' := by
                        apply L_inj; rw [L_append, L_B, L_B, L_B, HX.out]; rfl
                      rw [hBX] at hW7
                      clear hBX hW6
                      obtain ⟨A7, m7, c7, rfl⟩ := own_slice hW7.row
                      obtain rfl : m7 = X'.length := by rw [W3.size hW7, size_B]
                      have cO7 := (hW7.out.cell 0).trans rfl
                      have hO7 := hW7.out.lt
                      by_cases hbg : 65536 < X'.length
                      · have t7 : decide ((65536 : Int) < (X'.length : Int)) = true := decide_eq_true (by omega)
                        go_wp2_with fail
                        go_ret2
                        rw [HF.out hbg]
                        exact ⟨rfl, hW7.low⟩
                      · have t7 : decide ((65536 : Int) < (X'.length : Int)) = false := decide_eq_false (by omega)
                        go_wp2_with fail
                        go_roundw
                        case rel => exact ⟨i + 1, _, x0, by omega, by rw [HEE.out, HE.out]; exact HT.out, by go_num, by rw [HEX.out]; exact hW7, by rw [HLa.out]; rfl, by rw [HEX.out]; omega⟩
                        case measure => simp [intOf]; omega
                  · have t2 : decide ((i : Int) < (l.length : Int)) = false := decide_eq_false (by omega)
                    obtain rfl : i = l.length := by omega
                    have hel := PBlock.ends_length_le R ((l.take l.length).map rowS) 0 0 []
                    have hbw : PBlock.build (l.map rowS) (R : Int) = if 65536 < (PBlock.whole (l.map rowS) R).length then ([], 3) else (PBlock.whole (l.map rowS) R, 0) := by
                      by_cases hw : 65536 < (PBlock.whole (l.map rowS) R).length
                      · rw [if_pos hw]; exact build_three HG.out (.inr (.inr (by rw [Int.toNat_natCast]; exact hw)))
                      · rw [if_neg hw]; exact PBlock.build_of (by omega) (by omega) ho HK.out (by rw [List.length_map]; omega) (by rw [Int.toNat_natCast]; omega)
                    have hwl : (PBlock.whole (l.map rowS) R).length = _ := PBlock.whole_length (l.map rowS) R
                    have hwe : B (PBlock.whole (l.map rowS) R) = _ := congrArg B (show PBlock.whole (l.map rowS) R = PBlock.enc R 0 [] (l.map rowS) ++ PBlock.fours (PBlock.ends R 0 0 [] (l.map rowS)) ++ PBlock.four (PBlock.ends R 0 0 [] (l.map rowS)).length ++ PBlock.four R from rfl)
                    rw [List.take_length] at hW henc hel ⊢
                    rw [List.length_map] at hel
                    generalize PBlock.ends R 0 0 [] (l.map rowS) = E at hel hwl hwe ⊢
                    generalize PBlock.enc R 0 [] (l.map rowS) = X at hW henc hwl hwe
                    have z0 : (B X).size = X.length := size_B _
                    have z1 : (B (PBlock.fours E)).size = 4 * E.length := by rw [size_B, PBlock.fours_length]
                    have z2 : (B (PBlock.four E.length)).size = 4 := by rw [size_B]; rfl
                    have z3 : (B (PBlock.four R)).size = 4 := by rw [size_B]; rfl
                    have hcat : B (PBlock.whole (l.map rowS) R) = B X ++ B (PBlock.fours E) ++ B (PBlock.four E.length) ++ B (PBlock.four R) := by
                      rw [hwe]; apply L_inj; simp only [L_append, L_B]
                    clear hwe
                    have P4 := four_any E.length
                    have P5 := four_any R
                    have HB := Lib.hid hbw
                    have HC := Lib.hid hcat
                    have HWL := Lib.hid hwl
                    have hq4 : ((B (PBlock.fours E)).size : Int).tdiv 4 = (E.length : Int) := by rw [z1, Int.tdiv_eq_ediv_of_nonneg (by omega)]; omega
                    have hwr : IntKind.i64.wrap (E.length : Int) = (E.length : Int) := IntWalk.i64_in _ (by omega)
                    clear hbw hwl
                    have hcv := fun (w' : World) (h : W3 w w' b1 b2 b3 v (B X) last) => conv_str (B X) h.row
                    have zw : (B (PBlock.whole (l.map rowS) R)).size = (PBlock.whole (l.map rowS) R).length := size_B _
                    have HP4 := Lib.hid P4
                    have HP5 := Lib.hid P5
                    have HV := Lib.hid hcv
                    have HTE := Lib.hid z1
                    have c1 : (9223372036854775807 < (B X).size + (B (PBlock.fours E)).size) = False := eq_false (by omega)
                    have c2 : (9223372036854775807 < (B X ++ B (PBlock.fours E)).size + (B (PBlock.four E.length)).size) = False := eq_false (by rw [ByteArray.size_append]; omega)
                    have c2' : (9223372036854775807 < (B X).size + (B (PBlock.fours E)).size + (B (PBlock.four E.length)).size) = False := eq_false (by omega)
                    have c3 : (9223372036854775807 < (B X ++ B (PBlock.fours E) ++ B (PBlock.four E.length)).size + (B (PBlock.four R)).size) = False := eq_false (by rw [ByteArray.size_append, ByteArray.size_append]; omega)
                    have c3' : (9223372036854775807 < (B X).size + (B (PBlock.fours E)).size + (B (PBlock.four E.length)).size + (B (PBlock.four R)).size) = False := eq_false (by omega)
                    clear P4 P5 hcv z0 z1 z2 z3 hcat hlast henc
                    generalize B X = tx at *
                    generalize B (PBlock.fours E) = te at *
                    generalize B (PBlock.four E.length) = tf at *
                    generalize B (PBlock.four R) = tg at *
                    obtain ⟨tw, htw⟩ : ∃ tw, B (PBlock.whole (l.map rowS) R) = tw := ⟨_, rfl⟩
                    rw [htw] at HC zw
                    have HTW0 := Lib.hid htw
                    clear htw
                    obtain ⟨A1, m1, k1, rfl⟩ := own_slice hW.row
                    have hWd := hW.drew
                    have hO := hWd.out.lt
                    go_wp2_with fail
                    go_region_held3 (fun w' => w'.cell? ⟨b1, 0, none⟩ = some (.slice A1 m1 k1) ∧ (convert 42 9 (.slice A1 m1 k1)).run Try.prog w' = .ok (.string tx) w') (exact ⟨(hWd.out.cell 0).trans rfl, HV.out _ hWd⟩) (first | (((with_reducible refine (HP4.out _).mono ?_); rintro e w5 ⟨rfl, hb5⟩; have hWd := hWd.below hb5)) | (((with_reducible refine (HP5.out _).mono ?_); rintro e w6 ⟨rfl, hb6⟩; have hWd := hWd.below hb6)))
                    rw [← HC.out]
                    have hlow := hWd.low
                    have HB2 := HB.out
                    have HTW : Hid (B (PBlock.whole (l.map rowS) R) = tw) := HTW0
                    clear hW hWd hO hb5 hb6 hq4 hwr c1 c2 c2' c3 c3'
                    by_cases hfin : 65536 < (PBlock.whole (l.map rowS) R).length
                    · have t9 : decide ((65536 : Int) < (tw.size : Int)) = true := decide_eq_true (by omega)
                      rw [if_pos hfin] at HB2
                      have HB := Lib.hid HB2
                      clear HB2 zw hfin
                      go_wp2_with fail
                      go_ret2
                      rw [HB.out]
                      exact ⟨rfl, hlow⟩
                    · have t9 : decide ((65536 : Int) < (tw.size : Int)) = false := decide_eq_false (by omega)
                      rw [if_neg hfin] at HB2
                      have HB := Lib.hid HB2
                      clear HB2 zw hfin
                      go_wp2_with fail
                      go_ret2
                      rw [HB.out]
                      exact ⟨by rw [HTW.out]; rfl, hlow⟩
              · go_wp2_with fail
                go_ret2
                rw [build_three HG.out (by rw [List.length_map]; exact (worst_three HQ.out).elim .inl fun h => .inr (.inl h))]
                exact ⟨rfl, below_then hB hb3⟩
end Go.Proofs.Ytjgbcaemcohmpaa.Block
