/- Texts of this claim, joined by a program of this session (wip/pack.py): BlockE, GBlockB, Print9, RParts, Awake11, BlockL, BlockOwn, BlockBld. -/
import Derived.Deep.RegionHeld3
import Derived.StillTailTactics
import Derived.Laws.BitsAllLaws
import Derived.Test.YtjgbcaemcohmpaaQBlockBuild4
import Derived.Test.YtjgbcaemcohmpaaQBlockBuild6
import Derived.Test.YtjgbcaemcohmpaaQBlockBuild8
import Derived.Test.YtjgbcaemcohmpaaQBlockBuild9
import Derived.Test.YtjgbcaemcohmpaaQBlockBuild10
import Derived.Test.YtjgbcaemcohmpaaQBlockBuild13
import Derived.Test.YtjgbcaemcohmpaaQBlockBuild14
import Derived.Test.YtjgbcaemcohmpaaQBlockBuild17
-- BlockE
namespace Go.Proofs.Ytjgbcaemcohmpaa.Block
open Go.RowKit Aid Txt Print Go.Proofs.YtjgbcaemcohmpaaW.PrintWords
set_option maxRecDepth 100000 in
set_option maxHeartbeats 8000000 in
theorem build_any (l : List S31) (hl : ∀ x ∈ l, Fit x) (hs : l.length ≤ 9223372036854775806) (A0 : Option Addr) (c0 : Nat) (restart : Int) (r0 : -9223372036854775808 ≤ restart) (r1 : restart ≤ 9223372036854775807) (w : World) (hr0 : Kd.C k31 w A0 l.length l) (hc0 : l.length ≤ c0) :
    Calls Try.prog 12 #[.slice A0 l.length c0, .int .i64 restart] w fun e w' => e = .returned (.tuple #[.string (B (PBlock.build (l.map rowS) restart).1), .int .i64 ((PBlock.build (l.map rowS) restart).2 : Nat)]) ∧ Below w.heap.size w w' := by
  have HL := Lib.hid hl
  have HR := Lib.hid hr0
  clear hl hr0
  by_cases hbig : (1024 : Int) < (l.length : Int)
  · have t0 : decide ((1024 : Int) < (l.length : Int)) = true := decide_eq_true hbig
    go_enter Try.func12, Try.ntmps12
    go_wp2_with fail
    go_loopw [6, 21] (fun v6 v21 wr => ∃ i : Nat, i ≤ l.length ∧ v6 = .int .i64 3 ∧ v21 = .int .i64 i ∧ (∀ x ∈ l.take i, PBlock.check (rowS x) ≠ 2) ∧ Below w.heap.size w wr) (fun _ v21 _ => l.length - (intOf v21).toNat)
    case atStart => exact ⟨0, by omega, rfl, rfl, by simp, Below.refl _ _⟩
    case round =>
      obtain ⟨i, hi, rfl, rfl, hall, hB⟩ := hrel
      by_cases hlt : i < l.length
      · have t1 : decide ((i : Int) < (l.length : Int)) = true := decide_eq_true (by omega)
        obtain ⟨ad, rfl, k0, k1, k2, k3⟩ := at_T31 (Kd.C_below HR.out hB) (i : Int) (by omega) (by omega)
        rw [at_S31 l i hlt, Int.toNat_natCast] at k0 k1 k2 k3
        go_wp2_with fail
        refine (check_any l[i] (HL.out _ (List.getElem_mem _)) _).mono ?_
        rintro e w2 ⟨rfl, hb⟩
        have hB2 : Below w.heap.size w w2 := below_then (hB.alloc hB.size _) hb
        rcases check_cases (rowS l[i]) with hc | hc | hc
        · rw [hc]
          go_wp2_with fail
          go_roundw
          case rel => exact ⟨i + 1, by omega, rfl, by go_num, by rw [List.take_succ_eq_append_getElem hlt]; intro x hx; rcases List.mem_append.1 hx with hx | hx; exact hall x hx; rw [List.mem_singleton.1 hx, hc]; omega, hB2⟩
          case measure => simp [intOf]; omega
        · rw [hc]
          go_wp2_with fail
          go_ret2
          rw [build_two (.inr (.inr (.inr ⟨rowS l[i], List.mem_map_of_mem (List.getElem_mem _), hc⟩)))]
          exact ⟨rfl, hB2⟩
        · rw [hc]
          go_wp2_with fail
          go_roundw
          case rel => exact ⟨i + 1, by omega, rfl, by go_num, by rw [List.take_succ_eq_append_getElem hlt]; intro x hx; rcases List.mem_append.1 hx with hx | hx; exact hall x hx; rw [List.mem_singleton.1 hx, hc]; omega, hB2⟩
          case measure => simp [intOf]; omega
      · have t1 : decide ((i : Int) < (l.length : Int)) = false := decide_eq_false (by omega)
        obtain rfl : i = l.length := by omega
        rw [List.take_length] at hall
        have hno : ¬ ∃ r ∈ l.map rowS, PBlock.check r = 2 := by
          rintro ⟨r, hr, e⟩
          obtain ⟨x, hx, rfl⟩ := List.mem_map.1 hr
          exact hall x hx e
        by_cases ca : restart < 1
        · have ta : decide (restart < 1) = true := decide_eq_true ca
          go_wp2_with fail
          go_ret2
          rw [build_two (.inl ca)]
          exact ⟨rfl, hB⟩
        · have ta : decide (restart < 1) = false := decide_eq_false ca
          by_cases cb : 64 < restart
          · have tb : decide (64 < restart) = true := decide_eq_true cb
            go_wp2_with fail
            go_ret2
            rw [build_two (.inr (.inl cb))]
            exact ⟨rfl, hB⟩
          · have tb : decide (64 < restart) = false := decide_eq_false cb
            go_wp2_with fail
            refine (order_any l HL.out hs A0 c0 _ (Kd.C_below HR.out hB) hc0).mono ?_
            rintro e w3 ⟨rfl, hb3⟩
            cases ho : PBlock.order (l.map rowS) with
            | false =>
              go_wp2_with fail
              go_ret2
              rw [build_two (.inr (.inr (.inl ho)))]
              exact ⟨rfl, below_then hB hb3⟩
            | true =>
              go_wp2_with fail
              go_ret2
              rw [build_three (by rintro (h | h | h | h) <;> first | omega | exact hno h | (rw [ho] at h; cases h)) (.inl (by rw [List.length_map]; omega))]
              exact ⟨rfl, below_then hB hb3⟩
  · have t0 : decide ((1024 : Int) < (l.length : Int)) = false := decide_eq_false hbig
    go_enter Try.func12, Try.ntmps12
    go_wp2_with fail
    go_loopw [6, 21] (fun v6 v21 wr => ∃ i : Nat, i ≤ l.length ∧ v6 = .int .i64 (worst l.length ((l.take i).map rowS) : Nat) ∧ v21 = .int .i64 i ∧ (∀ x ∈ l.take i, PBlock.check (rowS x) ≠ 2) ∧ Below w.heap.size w wr) (fun _ v21 _ => l.length - (intOf v21).toNat)
    case atStart => exact ⟨0, by omega, by unfold worst; rw [if_neg (by simp; omega)]; rfl, rfl, by simp, Below.refl _ _⟩
    case round =>
      obtain ⟨i, hi, rfl, rfl, hall, hB⟩ := hrel
      by_cases hlt : i < l.length
      · have t1 : decide ((i : Int) < (l.length : Int)) = true := decide_eq_true (by omega)
        obtain ⟨ad, rfl, k0, k1, k2, k3⟩ := at_T31 (Kd.C_below HR.out hB) (i : Int) (by omega) (by omega)
        rw [at_S31 l i hlt, Int.toNat_natCast] at k0 k1 k2 k3
        have hw1 : ∀ c, PBlock.check (rowS l[i]) = c → c ≠ 2 → worst l.length ((l.take (i + 1)).map rowS) = max (worst l.length ((l.take i).map rowS)) c := by
          intro c hc h2
          rw [List.take_succ_eq_append_getElem hlt, List.map_append, List.map_cons, List.map_nil, worst_snoc _ _ _ (by rw [hc]; exact h2), hc]
        have HW1 := Lib.hid hw1
        clear hw1
        have hwl := worst_le l.length ((l.take i).map rowS)
        generalize worst l.length ((l.take i).map rowS) = q0 at hwl HW1 ⊢
        go_wp2_with fail
        refine (check_any l[i] (HL.out _ (List.getElem_mem _)) _).mono ?_
        rintro e w2 ⟨rfl, hb⟩
        have hB2 : Below w.heap.size w w2 := below_then (hB.alloc hB.size _) hb
        rcases hwl with rfl | rfl
        all_goals
          rcases check_cases (rowS l[i]) with hc | hc | hc
          · rw [hc]
            go_wp2_with fail
            go_roundw
            case rel => exact ⟨i + 1, by omega, by rw [HW1.out _ hc (by omega)]; rfl, by go_num, by rw [List.take_succ_eq_append_getElem hlt]; intro x hx; rcases List.mem_append.1 hx with hx | hx; exact hall x hx; rw [List.mem_singleton.1 hx, hc]; omega, hB2⟩
            case measure => simp [intOf]; omega
          · rw [hc]
            go_wp2_with fail
            go_ret2
            rw [build_two (.inr (.inr (.inr ⟨rowS l[i], List.mem_map_of_mem (List.getElem_mem _), hc⟩)))]
            exact ⟨rfl, hB2⟩
          · rw [hc]
            go_wp2_with fail
            go_roundw
            case rel => exact ⟨i + 1, by omega, by rw [HW1.out _ hc (by omega)]; rfl, by go_num, by rw [List.take_succ_eq_append_getElem hlt]; intro x hx; rcases List.mem_append.1 hx with hx | hx; exact hall x hx; rw [List.mem_singleton.1 hx, hc]; omega, hB2⟩
            case measure => simp [intOf]; omega
      · have t1 : decide ((i : Int) < (l.length : Int)) = false := decide_eq_false (by omega)
        obtain rfl : i = l.length := by omega
        rw [List.take_length] at hall ⊢
        have hno : ¬ ∃ r ∈ l.map rowS, PBlock.check r = 2 := by
          rintro ⟨r, hr, e⟩
          obtain ⟨x, hx, rfl⟩ := List.mem_map.1 hr
          exact hall x hx e
        by_cases ca : restart < 1
        · have ta : decide (restart < 1) = true := decide_eq_true ca
          go_wp2_with fail
          go_ret2
          rw [build_two (.inl ca)]
          exact ⟨rfl, hB⟩
        · have ta : decide (restart < 1) = false := decide_eq_false ca
          by_cases cb : 64 < restart
          · have tb : decide (64 < restart) = true := decide_eq_true cb
            go_wp2_with fail
            go_ret2
            rw [build_two (.inr (.inl cb))]
            exact ⟨rfl, hB⟩
          · have tb : decide (64 < restart) = false := decide_eq_false cb
            go_wp2_with fail
            refine (order_any l HL.out hs A0 c0 _ (Kd.C_below HR.out hB) hc0).mono ?_
            rintro e w3 ⟨rfl, hb3⟩
            cases ho : PBlock.order (l.map rowS) with
            | false =>
              go_wp2_with fail
              go_ret2
              rw [build_two (.inr (.inr (.inl ho)))]
              exact ⟨rfl, below_then hB hb3⟩
            | true =>
              have hgood : ¬ (restart < 1 ∨ 64 < restart ∨ PBlock.order (l.map rowS) = false ∨ ∃ r ∈ l.map rowS, PBlock.check r = 2) := by
                rintro (h | h | h | h) <;> first | omega | exact hno h | (rw [ho] at h; cases h)
              have hwl := worst_le l.length (l.map rowS)
              obtain ⟨q0, hq0⟩ : ∃ q0, q0 = worst l.length (l.map rowS) := ⟨_, rfl⟩
              rw [← hq0] at hwl ⊢
              have HQ := Lib.hid hq0
              have HG := Lib.hid hgood
              have HN := Lib.hid hno
              clear hq0 hgood hno hall
              rcases hwl with rfl | rfl
              · have hall0 := worst_zero HQ.out HN.out
                obtain ⟨R, rfl⟩ := Int.eq_ofNat_of_zero_le (show 0 ≤ restart by omega)
                have hB3 : Below w.heap.size w w3 := below_then hB hb3
                have HK := Lib.hid hall0.2
                have hn := hall0.1
                clear hall0 HN hb3 hB
                go_wp2_with fail
                have pO := Blk.new w3 42 #[.slice none 0 0]
                have lO := hB3.alloc hB3.size (.cells #[.slice none 0 0] 42)
                have gO := hB3.size
                refine (writer_any w _ _ pO gO lO).mono ?_
                rintro e w4 ⟨rfl, h3⟩
                clear pO lO
                generalize (World.alloc w3 _).heap.size + 1 = b2 at h3 ⊢
                generalize (World.alloc w3 _).heap.size = b3 at h3 ⊢
                generalize w3.heap.size = b1 at h3 gO ⊢
                clear hB3
                go_wp2_with fail
                go_loopw [11, 51] (fun v11 v51 wx => ∃ (i : Nat) (v : Value) (last : ByteArray), i ≤ l.length ∧ v11 = .string (B (PBlock.fours (PBlock.ends R 0 0 [] ((l.take i).map rowS)))) ∧ v51 = .int .i64 i ∧ W3 w wx b1 b2 b3 v (B (PBlock.enc R 0 [] ((l.take i).map rowS))) last ∧ L last = PBlock.lastOf [] ((l.take i).map rowS) ∧ (PBlock.enc R 0 [] ((l.take i).map rowS)).length ≤ 65536) (fun _ v51 _ => l.length - (intOf v51).toNat)
                case atStart => exact ⟨0, _, _, by omega, rfl, rfl, h3, rfl, by simp [PBlock.enc]⟩
                case round =>
                  clear h3
                  obtain ⟨i, v, last, hi2, rfl, rfl, hW, hlast, henc⟩ := hrel
                  by_cases hlt2 : i < l.length
                  · have t2 : decide ((i : Int) < (l.length : Int)) = true := decide_eq_true (by omega)
                    obtain ⟨ad, rfl, k0, k1, k2, k3⟩ := at_T31 (Kd.C_below HR.out hW.low) (i : Int) (by omega) (by omega)
                    rw [at_S31 l i hlt2, Int.toNat_natCast] at k0 k1 k2 k3
                    have hs1 : (l.take (i + 1)).map rowS = (l.take i).map rowS ++ [rowS l[i]] := by rw [List.take_succ_eq_append_getElem hlt2, List.map_append, List.map_cons, List.map_nil]
                    have hlen : ((l.take i).map rowS).length = i := by rw [List.length_map, List.length_take]; omega
                    have hX := PBlock.enc_snoc R ((l.take i).map rowS) (rowS l[i]) 0 []
                    have hE := PBlock.ends_snoc R ((l.take i).map rowS) (rowS l[i]) 0 0 []
                    have hLa := PBlock.lastOf_snoc [] ((l.take i).map rowS) (rowS l[i])
                    rw [hlen, Nat.zero_add, ← hs1] at hX hE
                    rw [← hs1] at hLa
                    rw [← hlast] at hX
                    have hck := HK.out (rowS l[i]) (List.mem_map_of_mem (List.getElem_mem _))
                    have hbd := PBlock.check_ok hck
                    have hf := HL.out l[i] (List.getElem_mem _)
                    have hll : (L last).length ≤ 520 := by
                      rw [hlast]
                      by_cases h0 : i = 0
                      · subst h0; simp [PBlock.lastOf]
                      · obtain ⟨j, rfl⟩ : ∃ j, i = j + 1 := ⟨i - 1, by omega⟩
                        rw [List.take_succ_eq_append_getElem (by omega), List.map_append, List.map_cons, List.map_nil, PBlock.lastOf_snoc]
                        exact (PBlock.check_ok (HK.out (rowS l[j]) (List.mem_map_of_mem (List.getElem_mem _)))).2.2.2.2.2.1
                    have hkl : (l[i]).f0.size ≤ 520 := by rw [← L_length]; exact hbd.2.2.2.2.2.1
                    have hvl : (l[i]).f3.size ≤ 2048 := by rw [← L_length]; exact hbd.2.2.2.2.2.2
                    have hrl := PBlock.rowEnc_le (rowS l[i]) (if i % R = 0 then [] else L last) hck
                    obtain ⟨x0, x1, x2, x3, hx⟩ : ∃ (x0 : ByteArray) (x1 x2 : Int) (x3 : ByteArray), l[i] = ⟨x0, x1, x2, x3⟩ := ⟨_, _, _, _, rfl⟩
                    have hfar : 65536 < (PBlock.enc R 0 [] ((l.take (i + 1)).map rowS)).length → PBlock.build (l.map rowS) (R : Int) = ([], 3) := fun h => PBlock.build_far HG.out (n := i + 1) (by rw [Int.toNat_natCast, ← List.map_take]; exact h)
                    rw [hx] at k0 k1 k2 k3 hX hLa hkl hvl hf hrl
                    have HLa := Lib.hid hLa
                    have hel := PBlock.ends_length_le R ((l.take i).map rowS) 0 0 []
                    rw [hlen] at hel
                    clear hLa hlast hbd hck hs1 hlen
                    obtain ⟨X', eX⟩ : ∃ X', PBlock.enc R 0 [] ((l.take (i + 1)).map rowS) = X' := ⟨_, rfl⟩
                    obtain ⟨E', eE⟩ : ∃ E', PBlock.ends R 0 0 [] ((l.take (i + 1)).map rowS) = E' := ⟨_, rfl⟩
                    rw [eX] at hX hfar
                    have HF := Lib.hid hfar
                    clear hfar
                    rw [eE] at hE
                    have HEX := Lib.hid eX
                    have HEE := Lib.hid eE
                    clear eX eE
                    generalize PBlock.enc R 0 [] ((l.take i).map rowS) = X at *
                    generalize PBlock.ends R 0 0 [] ((l.take i).map rowS) = E at *
                    have z1 : (B (PBlock.fours E)).size ≤ 4096 := by rw [size_B, PBlock.fours_length]; omega
                    have z2 : (B (PBlock.four X.length)).size = 4 := by rw [size_B]; rfl
                    have P4 := fun w' => four_any X.length w'
                    have hcat : B (PBlock.fours (E ++ [0 + X.length])) = B (PBlock.fours E) ++ B (PBlock.four X.length) := by
                      apply L_inj
                      rw [L_append, L_B, L_B, L_B, PBlock.fours_append, Nat.zero_add]
                      simp [PBlock.fours]
                    have HC := Lib.hid hcat
                    have HP4 := Lib.hid P4
                    clear hcat P4
                    obtain ⟨te, ht⟩ : ∃ te, te = B (PBlock.fours E) := ⟨_, rfl⟩
                    rw [← ht] at z1 HC ⊢
                    have HT := Lib.hid (congrArg Value.string ht)
                    clear ht
                    generalize B (PBlock.four X.length) = tf at z2 HC HP4
                    have zc : (9223372036854775807 < te.size + tf.size) = False := eq_false (by omega)
                    have HZ1 := Lib.hid z1
                    have HZ2 := Lib.hid z2
                    clear z1 z2
                    have hfr : (R : Int) ≠ 0 := by omega
                    obtain ⟨A1, m1, c1, rfl⟩ := own_slice hW.row
                    obtain rfl : m1 = X.length := by rw [W3.size hW, size_B]
                    have cO := (hW.out.cell 0).trans rfl
                    have hO := hW.out.lt
                    by_cases hz : i % R = 0
                    · rw [if_pos hz] at hX hE hrl
                      have t3 : ((i : Int) % (R : Int) == 0) = true := by rw [show ((i : Int) % (R : Int)) = ((i % R : Nat) : Int) from rfl, hz]; rfl
                      have HX := Lib.hid hX
                      have HE := Lib.hid hE
                      have HZ := Lib.hid hrl
                      clear hX hE hrl hz
                      go_wp2_with fail
                      refine (HP4.out _).mono ?_
                      rintro e w5 ⟨rfl, hb5⟩
                      have hW5 : W3 w w5 b1 b2 b3 (Value.slice A1 X.length c1) (B X) last := (hW.alloc _).below hb5
                      have hI5 := (Blk.new wr 31 #[.string x0, .int .u64 x1, .int .i64 x2, .string x3]).below hb5 (by simp)
                      go_wp2_with fail
                      have d0 := (hI5.cell 0).trans rfl
                      have d1 := (hI5.cell 1).trans rfl
                      have d2 := (hI5.cell 2).trans rfl
                      have d3 := (hI5.cell 3).trans rfl
                      have hR0 : (R = 0) = False := eq_false (by omega)
                      have htm : (i : Int).tmod (R : Int) = (i : Int) % (R : Int) := Int.tmod_eq_emod_of_nonneg (by omega)
                      go_still_tail 6, (by kernel_rfl)
                      clear hR0 htm
                      change wpList _ _ _ _ _ w5.drew
                      have hW6 := hW5.drew
                      have hb6 : Below w.heap.size w w5.drew := hW6.low
                      generalize w5.drew = w6 at hW6 ⊢
                      clear d0 d1 d2 d3 hW5 hI5 hb5
                      go_wp2_with fail
                      refine (write_first w w6 b1 b2 b3 _ _ last x0 x3 x1 x2 hW6 hkl hvl (by rw [size_B]; omega) hf.s0 hf.s1).mono ?_
                      rintro e w7 ⟨rfl, v7, hW7⟩
                      have hBX : B X ++ B (PBlock.rowEnc (rowOf x0 x1 x2 x3) []) = B X' := by
                        apply L_inj; rw [L_append, L_B, L_B, L_B, HX.out]; rfl
                      rw [hBX] at hW7
                      clear hBX hW6
                      obtain ⟨A7, m7, c7, rfl⟩ := own_slice hW7.row
                      obtain rfl : m7 = X'.length := by rw [W3.size hW7, size_B]
                      have cO7 := (hW7.out.cell 0).trans rfl
                      have hO7 := hW7.out.lt
                      by_cases hbg : 65536 < X'.length
                      · have t7 : decide ((65536 : Int) < (X'.length : Int)) = true := decide_eq_true (by omega)
                        go_wp2_with fail
                        go_ret2
                        rw [HF.out hbg]
                        exact ⟨rfl, hW7.low⟩
                      · have t7 : decide ((65536 : Int) < (X'.length : Int)) = false := decide_eq_false (by omega)
                        go_wp2_with fail
                        go_roundw
                        case rel => exact ⟨i + 1, _, x0, by omega, by rw [HEE.out, HE.out, HC.out], by go_num, by rw [HEX.out]; exact hW7, by rw [HLa.out]; rfl, by rw [HEX.out]; omega⟩
                        case measure => simp [intOf]; omega
                    · rw [if_neg hz] at hX hE hrl
                      rw [List.append_nil] at hE
                      have t3 : ((i : Int) % (R : Int) == 0) = false := by rw [show ((i : Int) % (R : Int)) = ((i % R : Nat) : Int) from rfl]; exact beq_eq_false_iff_ne.2 (by omega)
                      have HX := Lib.hid hX
                      have HE := Lib.hid hE
                      have HZ := Lib.hid hrl
                      clear hX hE hrl hz
                      have hW5 : W3 w (wr.alloc (.cells #[.string x0, .int .u64 x1, .int .i64 x2, .string x3] 31)) b1 b2 b3 (Value.slice A1 X.length c1) (B X) last := hW.alloc _
                      have hI5 := Blk.new wr 31 #[.string x0, .int .u64 x1, .int .i64 x2, .string x3]
                      go_wp2_with fail
                      generalize wr.alloc _ = w5 at hW5 hI5 ⊢
                      have d0 := (hI5.cell 0).trans rfl
                      have d1 := (hI5.cell 1).trans rfl
                      have d2 := (hI5.cell 2).trans rfl
                      have d3 := (hI5.cell 3).trans rfl
                      have hR0 : (R = 0) = False := eq_false (by omega)
                      have htm : (i : Int).tmod (R : Int) = (i : Int) % (R : Int) := Int.tmod_eq_emod_of_nonneg (by omega)
                      go_still_tail 6, (by kernel_rfl)
                      clear hR0 htm
                      change wpList _ _ _ _ _ w5.drew
                      have hW6 := hW5.drew
                      have hb6 : Below w.heap.size w w5.drew := hW6.low
                      generalize w5.drew = w6 at hW6 ⊢
                      clear d0 d1 d2 d3 hW5 hI5
                      go_wp2_with fail
                      refine (write_next w w6 b1 b2 b3 _ _ last x0 x3 x1 x2 hW6 hkl hvl (by rw [size_B]; omega) (by rw [← L_length]; exact hll) hf.s0 hf.s1).mono ?_
                      rintro e w7 ⟨rfl, v7, hW7⟩
                      have hBX : B X ++ B (PBlock.rowEnc (rowOf x0 x1 x2 x3) (L last)) = B X' := by
                        apply L_inj; rw [L_append, L_B, L_B, L_B, HX.out]; rfl
                      rw [hBX] at hW7
                      clear hBX hW6
                      obtain ⟨A7, m7, c7, rfl⟩ := own_slice hW7.row
                      obtain rfl : m7 = X'.length := by rw [W3.size hW7, size_B]
                      have cO7 := (hW7.out.cell 0).trans rfl
                      have hO7 := hW7.out.lt
                      by_cases hbg : 65536 < X'.length
                      · have t7 : decide ((65536 : Int) < (X'.length : Int)) = true := decide_eq_true (by omega)
                        go_wp2_with fail
                        go_ret2
                        rw [HF.out hbg]
                        exact ⟨rfl, hW7.low⟩
                      · have t7 : decide ((65536 : Int) < (X'.length : Int)) = false := decide_eq_false (by omega)
                        go_wp2_with fail
                        go_roundw
                        case rel => exact ⟨i + 1, _, x0, by omega, by rw [HEE.out, HE.out]; exact HT.out, by go_num, by rw [HEX.out]; exact hW7, by rw [HLa.out]; rfl, by rw [HEX.out]; omega⟩
                        case measure => simp [intOf]; omega
                  · have t2 : decide ((i : Int) < (l.length : Int)) = false := decide_eq_false (by omega)
                    obtain rfl : i = l.length := by omega
                    have hel := PBlock.ends_length_le R ((l.take l.length).map rowS) 0 0 []
                    have hbw : PBlock.build (l.map rowS) (R : Int) = if 65536 < (PBlock.whole (l.map rowS) R).length then ([], 3) else (PBlock.whole (l.map rowS) R, 0) := by
                      by_cases hw : 65536 < (PBlock.whole (l.map rowS) R).length
                      · rw [if_pos hw]; exact build_three HG.out (.inr (.inr (by rw [Int.toNat_natCast]; exact hw)))
                      · rw [if_neg hw]; exact PBlock.build_of (by omega) (by omega) ho HK.out (by rw [List.length_map]; omega) (by rw [Int.toNat_natCast]; omega)
                    have hwl : (PBlock.whole (l.map rowS) R).length = _ := PBlock.whole_length (l.map rowS) R
                    have hwe : B (PBlock.whole (l.map rowS) R) = _ := congrArg B (show PBlock.whole (l.map rowS) R = PBlock.enc R 0 [] (l.map rowS) ++ PBlock.fours (PBlock.ends R 0 0 [] (l.map rowS)) ++ PBlock.four (PBlock.ends R 0 0 [] (l.map rowS)).length ++ PBlock.four R from rfl)
                    rw [List.take_length] at hW henc hel ⊢
                    rw [List.length_map] at hel
                    generalize PBlock.ends R 0 0 [] (l.map rowS) = E at hel hwl hwe ⊢
                    generalize PBlock.enc R 0 [] (l.map rowS) = X at hW henc hwl hwe
                    have z0 : (B X).size = X.length := size_B _
                    have z1 : (B (PBlock.fours E)).size = 4 * E.length := by rw [size_B, PBlock.fours_length]
                    have z2 : (B (PBlock.four E.length)).size = 4 := by rw [size_B]; rfl
                    have z3 : (B (PBlock.four R)).size = 4 := by rw [size_B]; rfl
                    have hcat : B (PBlock.whole (l.map rowS) R) = B X ++ B (PBlock.fours E) ++ B (PBlock.four E.length) ++ B (PBlock.four R) := by
                      rw [hwe]; apply L_inj; simp only [L_append, L_B]
                    clear hwe
                    have P4 := four_any E.length
                    have P5 := four_any R
                    have HB := Lib.hid hbw
                    have HC := Lib.hid hcat
                    have HWL := Lib.hid hwl
                    have hq4 : ((B (PBlock.fours E)).size : Int).tdiv 4 = (E.length : Int) := by rw [z1, Int.tdiv_eq_ediv_of_nonneg (by omega)]; omega
                    have hwr : IntKind.i64.wrap (E.length : Int) = (E.length : Int) := IntWalk.i64_in _ (by omega)
                    clear hbw hwl
                    have hcv := fun (w' : World) (h : W3 w w' b1 b2 b3 v (B X) last) => conv_str (B X) h.row
                    have zw : (B (PBlock.whole (l.map rowS) R)).size = (PBlock.whole (l.map rowS) R).length := size_B _
                    have HP4 := Lib.hid P4
                    have HP5 := Lib.hid P5
                    have HV := Lib.hid hcv
                    have HTE := Lib.hid z1
                    have c1 : (9223372036854775807 < (B X).size + (B (PBlock.fours E)).size) = False := eq_false (by omega)
                    have c2 : (9223372036854775807 < (B X ++ B (PBlock.fours E)).size + (B (PBlock.four E.length)).size) = False := eq_false (by rw [ByteArray.size_append]; omega)
                    have c2' : (9223372036854775807 < (B X).size + (B (PBlock.fours E)).size + (B (PBlock.four E.length)).size) = False := eq_false (by omega)
                    have c3 : (9223372036854775807 < (B X ++ B (PBlock.fours E) ++ B (PBlock.four E.length)).size + (B (PBlock.four R)).size) = False := eq_false (by rw [ByteArray.size_append, ByteArray.size_append]; omega)
                    have c3' : (9223372036854775807 < (B X).size + (B (PBlock.fours E)).size + (B (PBlock.four E.length)).size + (B (PBlock.four R)).size) = False := eq_false (by omega)
                    clear P4 P5 hcv z0 z1 z2 z3 hcat hlast henc
                    generalize B X = tx at *
                    generalize B (PBlock.fours E) = te at *
                    generalize B (PBlock.four E.length) = tf at *
                    generalize B (PBlock.four R) = tg at *
                    obtain ⟨tw, htw⟩ : ∃ tw, B (PBlock.whole (l.map rowS) R) = tw := ⟨_, rfl⟩
                    rw [htw] at HC zw
                    have HTW0 := Lib.hid htw
                    clear htw
                    obtain ⟨A1, m1, k1, rfl⟩ := own_slice hW.row
                    have hWd := hW.drew
                    have hO := hWd.out.lt
                    go_wp2_with fail
                    go_region_held3 (fun w' => w'.cell? ⟨b1, 0, none⟩ = some (.slice A1 m1 k1) ∧ (convert 42 9 (.slice A1 m1 k1)).run Try.prog w' = .ok (.string tx) w') (exact ⟨(hWd.out.cell 0).trans rfl, HV.out _ hWd⟩) (first | (((with_reducible refine (HP4.out _).mono ?_); rintro e w5 ⟨rfl, hb5⟩; have hWd := hWd.below hb5)) | (((with_reducible refine (HP5.out _).mono ?_); rintro e w6 ⟨rfl, hb6⟩; have hWd := hWd.below hb6)))
                    rw [← HC.out]
                    have hlow := hWd.low
                    have HB2 := HB.out
                    have HTW : Hid (B (PBlock.whole (l.map rowS) R) = tw) := HTW0
                    clear hW hWd hO hb5 hb6 hq4 hwr c1 c2 c2' c3 c3'
                    by_cases hfin : 65536 < (PBlock.whole (l.map rowS) R).length
                    · have t9 : decide ((65536 : Int) < (tw.size : Int)) = true := decide_eq_true (by omega)
                      rw [if_pos hfin] at HB2
                      have HB := Lib.hid HB2
                      clear HB2 zw hfin
                      go_wp2_with fail
                      go_ret2
                      rw [HB.out]
                      exact ⟨rfl, hlow⟩
                    · have t9 : decide ((65536 : Int) < (tw.size : Int)) = false := decide_eq_false (by omega)
                      rw [if_neg hfin] at HB2
                      have HB := Lib.hid HB2
                      clear HB2 zw hfin
                      go_wp2_with fail
                      go_ret2
                      rw [HB.out]
                      exact ⟨by rw [HTW.out]; rfl, hlow⟩
              · go_wp2_with fail
                go_ret2
                rw [build_three HG.out (by rw [List.length_map]; exact (worst_three HQ.out).elim .inl fun h => .inr (.inl h))]
                exact ⟨rfl, below_then hB hb3⟩
end Go.Proofs.Ytjgbcaemcohmpaa.Block
-- GBlockB
namespace Go.Proofs.Ytjgbcaemcohmpaa.Print
open Go.RowKit Txt Block Go.Proofs.YtjgbcaemcohmpaaW.PrintWords
/-- rows and a number that fit a machine -/
def FitB (l : List S31) (r : Int) : Prop := (∀ x ∈ l, 0 ≤ x.f1 ∧ x.f1 < 18446744073709551616) ∧ l.length ≤ 9223372036854775806 ∧ -9223372036854775808 ≤ r ∧ r ≤ 9223372036854775807
instance (l : List S31) (r : Int) : Decidable (FitB l r) := by unfold FitB; infer_instance
def block_Build.f (l0 : List S31) (a1 : Int) : Option (ByteArray × Int) :=
  if FitB l0 a1 then some (B (PBlock.build (l0.map rowS) a1).1, ((PBlock.build (l0.map rowS) a1).2 : Int)) else none
theorem block_Build.eq (l0 : List S31) (a1 : Int) (h : FitB l0 a1) : block_Build.f l0 a1 = some (B (PBlock.build (l0.map rowS) a1).1, ((PBlock.build (l0.map rowS) a1).2 : Int)) := if_pos h
theorem block_Build.calls (A0 : Option Addr) (c0 : Nat) (l0 : List S31) (a1 : Int) (r1 : ByteArray) (r2 : Int) (w : World) (hr0 : Kd.C k31 w A0 l0.length l0) (hc0 : l0.length ≤ c0) (h : block_Build.f l0 a1 = some (r1, r2)) :
    Calls Try.prog 12 #[.slice A0 l0.length c0, .int .i64 a1] w fun e w' => e = .returned (.tuple #[.string r1, .int .i64 r2]) ∧ Below w.heap.size w w' := by
  unfold block_Build.f at h
  split at h
  · rename_i hf
    simp only [Option.some.injEq, Prod.mk.injEq] at h
    obtain ⟨rfl, rfl⟩ := h
    exact build_any l0 (fun x hx => ⟨(hf.1 x hx).1, (hf.1 x hx).2⟩) hf.2.1 A0 c0 a1 hf.2.2.1 hf.2.2.2 w hr0 hc0
  · cases h
end Go.Proofs.Ytjgbcaemcohmpaa.Print
-- Print9
namespace Go.Proofs.Ytjgbcaemcohmpaa.Print
open Go.RowKit Go.Proofs.YtjgbcaemcohmpaaW.PrintWords Go.Proofs.YtjgbcaemcohmpaaW.PrintLast Go.Proofs.YtjgbcaemcohmpaaW.PrintMore
attribute [local go_sem] max2_int min2_int max_two min_two max_three min_three max_four min_four   -- for this text's walks alone
set_option linter.unusedVariables false
set_option linter.unusedSimpArgs false

def block_Rows.l0 : Nat → ByteArray → ByteArray → List (S31) → ByteArray → Int → Option ((List (S31)) × Int)
  | 0, _, _, _, _, _ => none
  | k + 1, x0, x4, x7, x8, x9 => if x9 < (x4.size : Int) then (if 0 ≤ x9 then (if x9 ≤ (x4.size : Int) then ((block_read.f (x4.extract (x9 : Int).toNat x4.size) x8).bind fun bt140 => (if bt140.2.2.2.2 = 0 then (some (([] : List (S31)), 7)) else (if (x7.length : Int) = 1024 then (some (([] : List (S31)), 7)) else (if x7.length < 2932031007402 then (block_Rows.l0 k x0 x4 (x7 ++ [(⟨bt140.1, bt140.2.1, bt140.2.2.1, bt140.2.2.2.1⟩ : S31)]) bt140.1 (wrap64 (x9 + bt140.2.2.2.2))) else (none))))) else (none)) else (none)) else (if 0 ≤ (wrap64 ((x0.size : Int) - 4)) then (if (wrap64 ((x0.size : Int) - 4)) ≤ (x0.size : Int) then ((block_whole.f (x0.extract ((wrap64 ((x0.size : Int) - 4)) : Int).toNat x0.size)).bind fun t149 => ((block_Build.f x7 t149).bind fun bt150 => (if bt150.2 = 0 then (if bt150.1.toList = x0.toList then (some (x7, 0)) else (some (([] : List (S31)), 7))) else (some (([] : List (S31)), 7))))) else (none)) else (none))
def block_Rows.f (k : Nat) (a0 : ByteArray) : Option ((List (S31)) × Int) := (block_parts.f k a0).bind fun bt135 => (if bt135.2.2 = true then (block_Rows.l0 k a0 bt135.1 ([] : List (S31)) (⟨#[]⟩ : ByteArray) 0) else (some (([] : List (S31)), 7)))
theorem block_Rows.mono_l : ∀ k, (∀ y0 y1 y2 y3 y4, LeO (block_Rows.l0 k y0 y1 y2 y3 y4) (block_Rows.l0 (k + 1) y0 y1 y2 y3 y4))
  | 0 => fun _ _ _ _ _ r h => by simp [block_Rows.l0] at h
  | k + 1 => by
    have ih0 := block_Rows.mono_l k
    · intro y0 y1 y2 y3 y4
      unfold block_Rows.l0
      repeat' first
      | (with_reducible exact ih0 _ _ _ _ _)
      | (with_reducible exact block_parts.mono _ _)
      | (with_reducible exact LeO.refl _)
      | (with_reducible exact LeO.none _)
      | (with_reducible refine LeO.ite ?_ ?_)
      | (with_reducible refine LeO.bind ?_ (fun _ => ?_))
      | exact ih0 _ _ _ _ _
      | exact block_parts.mono _ _
      | exact LeO.none _
      | refine LeO.ite ?_ ?_
      | refine LeO.bind ?_ (fun _ => ?_)
theorem block_Rows.mono : ∀ a0 k, LeO (block_Rows.f k a0) (block_Rows.f (k + 1) a0) := by
  intro a0 k
  have ih0 := block_Rows.mono_l k
  unfold block_Rows.f
  repeat' first
      | (with_reducible exact ih0 _ _ _ _ _)
      | (with_reducible exact block_parts.mono _ _)
      | (with_reducible exact LeO.refl _)
      | (with_reducible exact LeO.none _)
      | (with_reducible refine LeO.ite ?_ ?_)
      | (with_reducible refine LeO.bind ?_ (fun _ => ?_))
      | exact ih0 _ _ _ _ _
      | exact block_parts.mono _ _
      | exact LeO.none _
      | refine LeO.ite ?_ ?_
      | refine LeO.bind ?_ (fun _ => ?_)
def block_Rows.T11 : Bool × List (List Nat × List Nat) := (true, [([], []), ([], []), ([1], [1]), ([0, 2], [0, 2]), ([], []), ([4], [4]), ([], []), ([], []), ([6, 7], [6, 7]), ([3, 3, 0, 1, 2, 3], [0, 3]), ([5, 9, 0, 1, 2, 3, 4, 5, 9], [5]), ([8, 10, 0, 1, 2, 3, 4, 5, 6, 7, 8, 9, 10], [6, 8])])
def block_Rows.B11 : List Nat := [0, 0, 2, 7, 0, 16, 0, 0, 192, 15, 575, 2047]
theorem block_Rows.tab11 : rtab .any (opsOf Try.f19 11) = block_Rows.T11 := by kernel_rfl
theorem block_Rows.bits11 : waitsOk block_Rows.T11.2 block_Rows.B11 = true := by kernel_rfl
set_option maxHeartbeats 8000000 in
set_option maxRecDepth 100000 in
theorem block_Rows.calls (k : Nat) (a0 : ByteArray) (r1 : List (S31)) (r2 : Int) (w : World) (h : block_Rows.f k a0 = some (r1, r2)) :
    Calls Try.prog 19 #[.string a0] w fun e w' => ∃ v0_ : Value, e = .returned (.tuple #[v0_, .int .i64 r2]) ∧ Kd.R k31 31 w' w.heap.size (fun _ => True) v0_ r1 ∧ Below w.heap.size w w' := by
  have hu31 := Try.underlying31
  have HB := Aside0.mk (Below.refl w.heap.size w)
  have H : ((block_parts.f k a0).bind fun bt135 => (if bt135.2.2 = true then (block_Rows.l0 k a0 bt135.1 ([] : List (S31)) (⟨#[]⟩ : ByteArray) 0) else (some (([] : List (S31)), 7)))) = some (r1, r2) := h
  clear h
  replace H := Option.bind_eq_some_iff.mp H
  obtain ⟨⟨t135, t136, t137⟩, A20, H⟩ := H
  replace H : (if t137 = true then (block_Rows.l0 k a0 t135 ([] : List (S31)) (⟨#[]⟩ : ByteArray) 0) else (some (([] : List (S31)), 7))) = some (r1, r2) := H
  have A2 := Aside0.mk A20
  clear A20
  by_cases c3 : t137 = true
  · subst c3
    have H1 : (block_Rows.l0 k a0 t135 ([] : List (S31)) (⟨#[]⟩ : ByteArray) 0) = some (r1, r2) := by rw [if_pos rfl] at H; exact H
    clear H
    have H := H1
    clear H1
    have H' := Aside0.mk H
    clear H
    go_enter Try.func19, Try.ntmps19
    go_wp2_with (first | ((with_reducible refine gate_callee (f := 30) rfl ?_); refine goesL_ (some 16) rfl rfl Try.func30 (by kernel_rfl) rfl #[.string a0] rfl (by (try simp only [List.map_toArray, List.map_cons, List.map_nil]); first | done | rfl | (simp only [List.length_drop, List.length_take]; rfl)) ?_; (with_reducible refine (block_parts.calls k a0 t135 t136 true _ A2.out).mono ?_); rintro e w4 ⟨v138, rfl, ho0, hb⟩; refine ⟨_, rfl, ?_⟩; have n0_ := Aside0.mk (Kd.R_lower ho0 (below_size (by repeat (first | (with_reducible first | exact HB.out | apply below_alloc | apply pw_below_drewN | apply below_drew1) | exact HB.out)))); have n1_ := Aside0.mk (below_step (by repeat (first | (with_reducible first | exact HB.out | apply below_alloc | apply pw_below_drewN | apply below_drew1) | exact HB.out)) hb); clear HB; have HO139 := n0_; have HB := n1_; clear n0_ n1_; (try clear hb); (try clear hb2); (try clear hk); (try clear hi); (try clear ho0)))
    go_loopg [7, 8, 9] k (fun kq v7 v8 v9 w' => ∃ (x7_1 : List (S31)) (x8_1 : ByteArray) (x9_1 : Int), v8 = .string x8_1 ∧ v9 = .int .i64 x9_1 ∧ Aside0 (block_Rows.l0 kq a0 t135 x7_1 x8_1 x9_1 = some (r1, r2)) ∧ Aside0 (kq ≤ k) ∧ Aside0 (Kd.R k31 31 w' w.heap.size (fun _ => True) v7 x7_1) ∧ Aside0 (Below w.heap.size w w'))
    case atStart => exact ⟨(([] : List (S31))), ((⟨#[]⟩ : ByteArray)), (0), (by first | rfl | (simp; done) | (simp [*]; done)), (by first | rfl | (simp; done) | (simp [*]; done)), H', ⟨Nat.le_refl _⟩, ⟨by first | exact Kd.R_nil _ _ _ _ _ | exact Kd.N_nil _ _ _ _ _ | exact Kd.V_nil _ _ _ _ _ | exact Kd.Q_nil _ _ _ _ _ | exact Kd.S_nil _ _ _ _ _⟩, ⟨by repeat (first | (with_reducible first | exact HB.out | apply below_alloc | apply pw_below_drewN | apply below_drew1) | exact HB.out)⟩⟩
    case round =>
      clear H'
      try clear c1
      try clear p2
      try clear c3
      obtain ⟨x7_1, x8_1, x9_1, rfl, rfl, HA, HK1, HO_7, HB⟩ := hrel
      cases gk with
      | zero => exact absurd HA.out (by simp [block_Rows.l0])
      | succ k1 =>
        have H := HA.out
        clear HA
        simp only [block_Rows.l0] at H
        by_cases c5 : x9_1 < (t135.size : Int)
        · rw [if_pos c5] at H
          have c5b0 : decide (x9_1 < (t135.size : Int)) = true := decide_eq_true c5
          clear c5
          by_cases c6 : 0 ≤ x9_1
          · rw [if_pos c6] at H
            have c6b0 := eq_true c6
            have c6b1 : decide (0 ≤ x9_1) = true := decide_eq_true c6
            clear c6
            by_cases c7 : x9_1 ≤ (t135.size : Int)
            · rw [if_pos c7] at H
              have c7b0 := eq_true c7
              have c7b1 : decide (x9_1 ≤ (t135.size : Int)) = true := decide_eq_true c7
              clear c7
              replace H := Option.bind_eq_some_iff.mp H
              obtain ⟨⟨t140, t141, t142, t143, t144⟩, A80, H⟩ := H
              replace H : (if t144 = 0 then (some (([] : List (S31)), 7)) else (if (x7_1.length : Int) = 1024 then (some (([] : List (S31)), 7)) else (if x7_1.length < 2932031007402 then (block_Rows.l0 k1 a0 t135 (x7_1 ++ [(⟨t140, t141, t142, t143⟩ : S31)]) t140 (wrap64 (x9_1 + t144))) else (none)))) = some (r1, r2) := H
              have A8 := Aside0.mk A80
              clear A80
              by_cases c9 : t144 = 0
              · rw [if_pos c9] at H
                have c9b0 : (t144 == 0) = true := beq_iff_eq.mpr c9
                have c9b1 : (t144 != 0) = false := bne_eq_false_iff_eq.mpr c9
                clear c9
                simp only [Option.some.injEq, Prod.mk.injEq] at H
                obtain ⟨rfl, rfl⟩ := H
                go_wp2_with (first | ((with_reducible refine gate_callee (f := 31) rfl ?_); refine goesL_ (some 31) rfl rfl Try.func31 (by kernel_rfl) rfl #[.string (t135.extract (x9_1 : Int).toNat t135.size), .string x8_1] rfl (by (try simp only [List.map_toArray, List.map_cons, List.map_nil]); first | done | rfl | (simp only [List.length_drop, List.length_take]; rfl)) ?_; (with_reducible refine (block_read.calls (t135.extract (x9_1 : Int).toNat t135.size) x8_1 t140 t141 t142 t143 t144 _ A8.out).mono ?_); rintro e w10 ⟨rfl, hb⟩; refine ⟨_, rfl, ?_⟩; have n0_ := Aside0.mk (Kd.R_below (by (with_reducible repeat (first | apply Kd.R_alloc | apply Kd.R_drewN | apply Kd.R_drew)); exact HO_7.out) hb); have n1_ := Aside0.mk (below_step (by repeat (first | (with_reducible first | exact HB.out | apply below_alloc | apply pw_below_drewN | apply below_drew1) | exact HB.out)) hb); clear HO_7; clear HB; have HO_7 := n0_; have HB := n1_; clear n0_ n1_; (try clear hb); (try clear hb2); (try clear hk); (try clear hi)) | ((with_reducible refine gate_dst (N := 10) rfl ?_); (try (refine gate_guard (by rfl) ?_; dsimp only)); refine box_event ?hg (N := 10) ?hd (cs := #[.string (⟨#[]⟩ : ByteArray), .int .u64 0, .int .i64 0, .string (⟨#[]⟩ : ByteArray)]) (t := 31) ?hr ?_; (case hd => rfl); (case hg => rfl); (case hr => first | (go_simp; done) | (go_simp; rfl)); intro gb145 hg w11 hbox hb; have n0_ := Aside0.mk (Kd.R_below (Kd.R_elderB (by (with_reducible repeat (first | apply Kd.R_alloc | apply Kd.R_drewN | apply Kd.R_drew)); exact HO_7.out) gb145 (Nat.le_of_eq hg.symm)) hb); have n1_ := Aside0.mk (below_step (by repeat (first | (with_reducible first | exact HB.out | apply below_alloc | apply pw_below_drewN | apply below_drew1) | exact HB.out)) hb); have n2_ := Aside0.mk (hbox); have n3_ := Aside0.mk ((by rw [hg]; exact (below_size (by repeat (first | (with_reducible first | exact HB.out | apply below_alloc | apply pw_below_drewN | apply below_drew1) | exact HB.out))) : w.heap.size ≤ gb145)); have n4_ := Aside0.mk ((by rw [hg]; exact (below_size (by repeat (first | (with_reducible first | exact HB.out | apply below_alloc | apply pw_below_drewN | apply below_drew1) | exact HB.out))) : w.heap.size ≤ gb145)); clear HO_7; clear HB; have HO_7 := n0_; have HB := n1_; have BK145 := n2_; have GW145 := n3_; have GE145 := n4_; clear n0_ n1_ n2_ n3_ n4_; clear hb hbox hg; have hcz12_0 : w11.cell? ⟨gb145, 0, none⟩ = some (.string (⟨#[]⟩ : ByteArray)) := (blk_cell BK145.out 0).trans rfl; have hcz12_1 : w11.cell? ⟨gb145, 1, none⟩ = some (.int .u64 0) := (blk_cell BK145.out 1).trans rfl; have hcz12_2 : w11.cell? ⟨gb145, 2, none⟩ = some (.int .i64 0) := (blk_cell BK145.out 2).trans rfl; have hcz12_3 : w11.cell? ⟨gb145, 3, none⟩ = some (.string (⟨#[]⟩ : ByteArray)) := (blk_cell BK145.out 3).trans rfl; have hfz12_0 := blk_frozen BK145.out 0; have hfz12_1 := blk_frozen BK145.out 1; have hfz12_2 := blk_frozen BK145.out 2; have hfz12_3 := blk_frozen BK145.out 3))
                go_ret2
                exact ⟨_, by first | rfl | (simp [errW_none, errW_some] <;> rfl) | (simp [*, errW_none, errW_some] <;> rfl), by first | exact Kd.R_nil _ _ _ _ _ | exact Kd.N_nil _ _ _ _ _ | exact Kd.V_nil _ _ _ _ _ | exact Kd.Q_nil _ _ _ _ _ | exact Kd.S_nil _ _ _ _ _, by repeat (first | (with_reducible first | exact HB.out | apply below_alloc | apply pw_below_drewN | apply below_drew1 | refine below_set ?_ GE145.out) | exact HB.out)⟩
              · rw [if_neg c9] at H
                have c9b0 : (t144 == 0) = false := beq_eq_false_iff_ne.mpr c9
                have c9b1 : (t144 != 0) = true := bne_iff_ne.mpr c9
                by_cases c13 : (x7_1.length : Int) = 1024
                · rw [if_pos c13] at H
                  have c13b0 : ((x7_1.length : Int) == 1024) = true := beq_iff_eq.mpr c13
                  have c13b1 : ((x7_1.length : Int) != 1024) = false := bne_eq_false_iff_eq.mpr c13
                  clear c13
                  simp only [Option.some.injEq, Prod.mk.injEq] at H
                  obtain ⟨rfl, rfl⟩ := H
                  go_wp2_with (first | ((with_reducible refine gate_callee (f := 31) rfl ?_); refine goesL_ (some 31) rfl rfl Try.func31 (by kernel_rfl) rfl #[.string (t135.extract (x9_1 : Int).toNat t135.size), .string x8_1] rfl (by (try simp only [List.map_toArray, List.map_cons, List.map_nil]); first | done | rfl | (simp only [List.length_drop, List.length_take]; rfl)) ?_; (with_reducible refine (block_read.calls (t135.extract (x9_1 : Int).toNat t135.size) x8_1 t140 t141 t142 t143 t144 _ A8.out).mono ?_); rintro e w14 ⟨rfl, hb⟩; refine ⟨_, rfl, ?_⟩; have n0_ := Aside0.mk (Kd.R_below (by (with_reducible repeat (first | apply Kd.R_alloc | apply Kd.R_drewN | apply Kd.R_drew)); exact HO_7.out) hb); have n1_ := Aside0.mk (below_step (by repeat (first | (with_reducible first | exact HB.out | apply below_alloc | apply pw_below_drewN | apply below_drew1) | exact HB.out)) hb); clear HO_7; clear HB; have HO_7 := n0_; have HB := n1_; clear n0_ n1_; (try clear hb); (try clear hb2); (try clear hk); (try clear hi)) | ((with_reducible refine gate_dst (N := 10) rfl ?_); (try (refine gate_guard (by rfl) ?_; dsimp only)); refine box_event ?hg (N := 10) ?hd (cs := #[.string (⟨#[]⟩ : ByteArray), .int .u64 0, .int .i64 0, .string (⟨#[]⟩ : ByteArray)]) (t := 31) ?hr ?_; (case hd => rfl); (case hg => rfl); (case hr => first | (go_simp; done) | (go_simp; rfl)); intro gb145 hg w15 hbox hb; have n0_ := Aside0.mk (Kd.R_below (Kd.R_elderB (by (with_reducible repeat (first | apply Kd.R_alloc | apply Kd.R_drewN | apply Kd.R_drew)); exact HO_7.out) gb145 (Nat.le_of_eq hg.symm)) hb); have n1_ := Aside0.mk (below_step (by repeat (first | (with_reducible first | exact HB.out | apply below_alloc | apply pw_below_drewN | apply below_drew1) | exact HB.out)) hb); have n2_ := Aside0.mk (hbox); have n3_ := Aside0.mk ((by rw [hg]; exact (below_size (by repeat (first | (with_reducible first | exact HB.out | apply below_alloc | apply pw_below_drewN | apply below_drew1) | exact HB.out))) : w.heap.size ≤ gb145)); have n4_ := Aside0.mk ((by rw [hg]; exact (below_size (by repeat (first | (with_reducible first | exact HB.out | apply below_alloc | apply pw_below_drewN | apply below_drew1) | exact HB.out))) : w.heap.size ≤ gb145)); clear HO_7; clear HB; have HO_7 := n0_; have HB := n1_; have BK145 := n2_; have GW145 := n3_; have GE145 := n4_; clear n0_ n1_ n2_ n3_ n4_; clear hb hbox hg; have hcz16_0 : w15.cell? ⟨gb145, 0, none⟩ = some (.string (⟨#[]⟩ : ByteArray)) := (blk_cell BK145.out 0).trans rfl; have hcz16_1 : w15.cell? ⟨gb145, 1, none⟩ = some (.int .u64 0) := (blk_cell BK145.out 1).trans rfl; have hcz16_2 : w15.cell? ⟨gb145, 2, none⟩ = some (.int .i64 0) := (blk_cell BK145.out 2).trans rfl; have hcz16_3 : w15.cell? ⟨gb145, 3, none⟩ = some (.string (⟨#[]⟩ : ByteArray)) := (blk_cell BK145.out 3).trans rfl; have hfz16_0 := blk_frozen BK145.out 0; have hfz16_1 := blk_frozen BK145.out 1; have hfz16_2 := blk_frozen BK145.out 2; have hfz16_3 := blk_frozen BK145.out 3; obtain ⟨Ao17, co17, eo17⟩ := Kd.R_slice HO_7.out; subst eo17))
                  go_ret2
                  exact ⟨_, by first | rfl | (simp [errW_none, errW_some] <;> rfl) | (simp [*, errW_none, errW_some] <;> rfl), by first | exact Kd.R_nil _ _ _ _ _ | exact Kd.N_nil _ _ _ _ _ | exact Kd.V_nil _ _ _ _ _ | exact Kd.Q_nil _ _ _ _ _ | exact Kd.S_nil _ _ _ _ _, by repeat (first | (with_reducible first | exact HB.out | apply below_alloc | apply pw_below_drewN | apply below_drew1 | refine below_set ?_ GE145.out) | exact HB.out)⟩
                · rw [if_neg c13] at H
                  have c13b0 : ((x7_1.length : Int) == 1024) = false := beq_eq_false_iff_ne.mpr c13
                  have c13b1 : ((x7_1.length : Int) != 1024) = true := bne_iff_ne.mpr c13
                  by_cases c18 : x7_1.length < 2932031007402
                  · rw [if_pos c18] at H
                    have LMc18 := Aside0.mk c18
                    clear c18
                    obtain ⟨y146, hy146⟩ : ∃ y_ : List (S31), y_ = (x7_1 ++ [(⟨t140, t141, t142, t143⟩ : S31)]) := ⟨_, rfl⟩
                    replace H : (block_Rows.l0 k1 a0 t135 y146 t140 (wrap64 (x9_1 + t144))) = some (r1, r2) := by first | (rw [hy146]; with_reducible exact H) | (have H2_ := (Option.bind_some _ _).symm.trans H; rw [hy146]; with_reducible exact H2_) | (have H2_ := (Option.bind_some _ _).symm.trans H; with_reducible exact H2_) | with_reducible exact H | (rw [hy146]; exact H) | exact H
                    have Ny146 := Aside0.mk hy146
                    clear hy146
                    have H' := Aside0.mk H
                    clear H
                    try go_wp2_with (first | ((with_reducible refine gate_callee (f := 31) rfl ?_); refine goesL_ (some 31) rfl rfl Try.func31 (by kernel_rfl) rfl #[.string (t135.extract (x9_1 : Int).toNat t135.size), .string x8_1] rfl (by (try simp only [List.map_toArray, List.map_cons, List.map_nil]); first | done | rfl | (simp only [List.length_drop, List.length_take]; rfl)) ?_; (with_reducible refine (block_read.calls (t135.extract (x9_1 : Int).toNat t135.size) x8_1 t140 t141 t142 t143 t144 _ A8.out).mono ?_); rintro e w19 ⟨rfl, hb⟩; refine ⟨_, rfl, ?_⟩; have n0_ := Aside0.mk (Kd.R_below (by (with_reducible repeat (first | apply Kd.R_alloc | apply Kd.R_drewN | apply Kd.R_drew)); exact HO_7.out) hb); have n1_ := Aside0.mk (below_step (by repeat (first | (with_reducible first | exact HB.out | apply below_alloc | apply pw_below_drewN | apply below_drew1) | exact HB.out)) hb); clear HO_7; clear HB; have HO_7 := n0_; have HB := n1_; clear n0_ n1_; (try clear hb); (try clear hb2); (try clear hk); (try clear hi)) | ((with_reducible refine gate_dst (N := 10) rfl ?_); (try (refine gate_guard (by rfl) ?_; dsimp only)); refine box_event ?hg (N := 10) ?hd (cs := #[.string (⟨#[]⟩ : ByteArray), .int .u64 0, .int .i64 0, .string (⟨#[]⟩ : ByteArray)]) (t := 31) ?hr ?_; (case hd => rfl); (case hg => rfl); (case hr => first | (go_simp; done) | (go_simp; rfl)); intro gb145 hg w20 hbox hb; have n0_ := Aside0.mk (Kd.R_below (Kd.R_elderB (by (with_reducible repeat (first | apply Kd.R_alloc | apply Kd.R_drewN | apply Kd.R_drew)); exact HO_7.out) gb145 (Nat.le_of_eq hg.symm)) hb); have n1_ := Aside0.mk (below_step (by repeat (first | (with_reducible first | exact HB.out | apply below_alloc | apply pw_below_drewN | apply below_drew1) | exact HB.out)) hb); have n2_ := Aside0.mk (hbox); have n3_ := Aside0.mk ((by rw [hg]; exact (below_size (by repeat (first | (with_reducible first | exact HB.out | apply below_alloc | apply pw_below_drewN | apply below_drew1) | exact HB.out))) : w.heap.size ≤ gb145)); have n4_ := Aside0.mk ((by rw [hg]; exact (below_size (by repeat (first | (with_reducible first | exact HB.out | apply below_alloc | apply pw_below_drewN | apply below_drew1) | exact HB.out))) : w.heap.size ≤ gb145)); clear HO_7; clear HB; have HO_7 := n0_; have HB := n1_; have BK145 := n2_; have GW145 := n3_; have GE145 := n4_; clear n0_ n1_ n2_ n3_ n4_; clear hb hbox hg; have hcz21_0 : w20.cell? ⟨gb145, 0, none⟩ = some (.string (⟨#[]⟩ : ByteArray)) := (blk_cell BK145.out 0).trans rfl; have hcz21_1 : w20.cell? ⟨gb145, 1, none⟩ = some (.int .u64 0) := (blk_cell BK145.out 1).trans rfl; have hcz21_2 : w20.cell? ⟨gb145, 2, none⟩ = some (.int .i64 0) := (blk_cell BK145.out 2).trans rfl; have hcz21_3 : w20.cell? ⟨gb145, 3, none⟩ = some (.string (⟨#[]⟩ : ByteArray)) := (blk_cell BK145.out 3).trans rfl; have hfz21_0 := blk_frozen BK145.out 0; have hfz21_1 := blk_frozen BK145.out 1; have hfz21_2 := blk_frozen BK145.out 2; have hfz21_3 := blk_frozen BK145.out 3; obtain ⟨Ao22, co22, eo22⟩ := Kd.R_slice HO_7.out; subst eo22))
                    have n0_ : Aside0 (Kd.R k31 31 ((((w20.setCell ⟨gb145, 0, none⟩ (.string t140)).setCell ⟨gb145, 1, none⟩ (.int .u64 t141)).setCell ⟨gb145, 2, none⟩ (.int .i64 t142)).setCell ⟨gb145, 3, none⟩ (.string t143)) w.heap.size (fun k_ => k_ ≠ gb145) (.slice Ao22 x7_1.length co22) x7_1) := ⟨by (with_reducible repeat (first | apply Kd.R_alloc | apply Kd.R_drewN | apply Kd.R_drew)); exact Kd.R_mono (Kd.R_far (p := ⟨gb145, 3, none⟩) (Kd.R_far (p := ⟨gb145, 2, none⟩) (Kd.R_far (p := ⟨gb145, 1, none⟩) (Kd.R_far (p := ⟨gb145, 0, none⟩) (Kd.R_mono HO_7.out (fun k_ hk => (⟨hk, hk.2⟩ : _ ∧ k_ ≠ gb145))) (fun _ hk => hk.2) (.string t140)) (fun _ hk => hk.2) (.int .u64 t141)) (fun _ hk => hk.2) (.int .i64 t142)) (fun _ hk => hk.2) (.string t143)) (fun _ hk => hk.1.2)⟩
                    have n1_ : Aside0 (((((w20.setCell ⟨gb145, 0, none⟩ (.string t140)).setCell ⟨gb145, 1, none⟩ (.int .u64 t141)).setCell ⟨gb145, 2, none⟩ (.int .i64 t142)).setCell ⟨gb145, 3, none⟩ (.string t143)).heap[gb145]? = some (.cells #[.string t140, .int .u64 t141, .int .i64 t142, .string t143] 31 (0, 0))) := ⟨by (with_reducible repeat (first | refine blk_drewN ?_ _ | refine blk_drew ?_ | refine blk_alloc ?_ _)); refine blk_put (cs := #[.string t140, .int .u64 t141, .int .i64 t142, .string (⟨#[]⟩ : ByteArray)]) ?_ 3 _ rfl; (with_reducible repeat (first | refine blk_drewN ?_ _ | refine blk_drew ?_ | refine blk_alloc ?_ _)); refine blk_put (cs := #[.string t140, .int .u64 t141, .int .i64 0, .string (⟨#[]⟩ : ByteArray)]) ?_ 2 _ rfl; (with_reducible repeat (first | refine blk_drewN ?_ _ | refine blk_drew ?_ | refine blk_alloc ?_ _)); refine blk_put (cs := #[.string t140, .int .u64 0, .int .i64 0, .string (⟨#[]⟩ : ByteArray)]) ?_ 1 _ rfl; (with_reducible repeat (first | refine blk_drewN ?_ _ | refine blk_drew ?_ | refine blk_alloc ?_ _)); refine blk_put (cs := #[.string (⟨#[]⟩ : ByteArray), .int .u64 0, .int .i64 0, .string (⟨#[]⟩ : ByteArray)]) ?_ 0 _ rfl; (with_reducible repeat (first | refine blk_drewN ?_ _ | refine blk_drew ?_ | refine blk_alloc ?_ _)); exact BK145.out⟩
                    have n2_ : Aside0 (Below w.heap.size w ((((w20.setCell ⟨gb145, 0, none⟩ (.string t140)).setCell ⟨gb145, 1, none⟩ (.int .u64 t141)).setCell ⟨gb145, 2, none⟩ (.int .i64 t142)).setCell ⟨gb145, 3, none⟩ (.string t143))) := ⟨by repeat (first | (with_reducible first | exact HB.out | apply below_alloc | apply pw_below_drewN | apply below_drew1 | refine below_set ?_ GE145.out) | exact HB.out)⟩
                    (try clear HO_7)
                    (try clear BK145)
                    (try clear HB)
                    generalize ((((w20.setCell ⟨gb145, 0, none⟩ (.string t140)).setCell ⟨gb145, 1, none⟩ (.int .u64 t141)).setCell ⟨gb145, 2, none⟩ (.int .i64 t142)).setCell ⟨gb145, 3, none⟩ (.string t143)) = w23 at n0_ n1_ n2_ ⊢
                    have HO_7 := n0_
                    have BK145 := n1_
                    have HB := n2_
                    clear n0_ n1_ n2_
                    have n0_ := Aside0.mk (Kd.R_drew HO_7.out)
                    have n1_ := Aside0.mk (blk_drew BK145.out)
                    have n2_ := Aside0.mk (below_drew1 HB.out)
                    clear HO_7
                    clear BK145
                    clear HB
                    have HO_7 := n0_
                    have BK145 := n1_
                    have HB := n2_
                    clear n0_ n1_ n2_
                    refine start_ (n := 12) (S := fun w' => w'.cell? ⟨gb145, 0, none⟩ = some (.string t140) ∧ w'.cell? ⟨gb145, 1, none⟩ = some (.int .u64 t141) ∧ w'.cell? ⟨gb145, 2, none⟩ = some (.int .i64 t142) ∧ w'.cell? ⟨gb145, 3, none⟩ = some (.string t143)) (ds := []) #[false, false, false, false, false, false, false, false, false, false, false, false] (by kernel_rfl) rfl rfl ⟨(blk_cell BK145.out 0).trans rfl, (blk_cell BK145.out 1).trans rfl, (blk_cell BK145.out 2).trans rfl, (blk_cell BK145.out 3).trans rfl⟩ (fun hHeld => ?_); refine with_tabW block_Rows.tab11 block_Rows.bits11 (fun HT_ HW_ => ?_)
                    generalize w23.drew = w24 at HO_7 BK145 HB hHeld ⊢
                    refine pure_ (i := 0) (N := some 41) (v := ?_) (a' := ?_) #[true, false, false, false, false, false, false, false, false, false, false, false] rfl rfl (any_of HT_.out (by kernel_rfl)) (fun _ _ _ h => h) (Or.inl ⟨by rfl, ?_⟩) ?_ ?_
                    rotate_left
                    · intro w'
                      go_simp
                      with_reducible rfl
                    rotate_left
                    · simp only [Act.put, List.setIfInBounds_toArray, List.set_cons_zero, List.set_cons_succ, i64_w, i32_w]
                      rfl
                    refine pure_ (i := 4) (N := some 45) (v := ?_) (a' := ?_) #[true, false, false, false, true, false, false, false, false, false, false, false] rfl rfl (any_of HT_.out (by kernel_rfl)) (fun _ _ _ h => h) (Or.inl ⟨by rfl, ?_⟩) ?_ ?_
                    rotate_left
                    · intro w'
                      go_simp
                      with_reducible rfl
                    rotate_left
                    · simp only [Act.put, List.setIfInBounds_toArray, List.set_cons_zero, List.set_cons_succ, i64_w, i32_w]
                      rfl
                    refine pure_ (i := 6) (N := some 47) (v := ?_) (a' := ?_) #[true, false, false, false, true, false, true, false, false, false, false, false] rfl rfl (any_of HT_.out (by kernel_rfl)) (fun _ _ _ h => h) (Or.inl ⟨by rfl, ?_⟩) ?_ ?_
                    rotate_left
                    · intro w'
                      go_simp
                      with_reducible rfl
                    rotate_left
                    · simp only [Act.put, List.setIfInBounds_toArray, List.set_cons_zero, List.set_cons_succ, i64_w, i32_w]
                      rfl
                    refine pure_ (i := 7) (N := some 48) (v := ?_) (a' := ?_) #[true, false, false, false, true, false, true, true, false, false, false, false] rfl rfl (any_of HT_.out (by kernel_rfl)) (fun _ _ _ h => h) (Or.inl ⟨by rfl, ?_⟩) ?_ ?_
                    rotate_left
                    · intro w'
                      go_simp
                      with_reducible rfl
                    rotate_left
                    · simp only [Act.put, List.setIfInBounds_toArray, List.set_cons_zero, List.set_cons_succ, i64_w, i32_w]
                      rfl
                    refine pure_ (i := 8) (N := some 49) (v := ?_) (a' := ?_) #[true, false, false, false, true, false, true, true, true, false, false, false] rfl rfl (any_of HT_.out (by kernel_rfl)) (fun _ _ _ h => h) (Or.inl ⟨by rfl, ?_⟩) ?_ ?_
                    rotate_left
                    · intro w'
                      go_simp
                      with_reducible rfl
                    rotate_left
                    · simp only [Act.put, List.setIfInBounds_toArray, List.set_cons_zero, List.set_cons_succ, i64_w, i32_w]
                      rfl
                    refine take_ (i := 1) (N := some 42) (v := ?_) (a' := ?_) #[true, true, false, false, true, false, true, true, true, false, false, false] rfl rfl (take_ofW HT_.out HW_.out (by kernel_rfl)) (fun _ _ _ h => h) (Or.inl ⟨by rfl, ?_⟩) hHeld ?_ ?_
                    rotate_left
                    · rintro w' ⟨s0, s1, s2, s3⟩
                      go_simp
                      with_reducible rfl
                    rotate_left
                    · simp only [Act.put, List.setIfInBounds_toArray, List.set_cons_zero, List.set_cons_succ, i64_w, i32_w]
                      rfl
                    refine take_ (i := 5) (N := some 46) (v := ?_) (a' := ?_) #[true, true, false, false, true, true, true, true, true, false, false, false] rfl rfl (take_ofW HT_.out HW_.out (by kernel_rfl)) (fun _ _ _ h => h) (Or.inl ⟨by rfl, ?_⟩) hHeld ?_ ?_
                    rotate_left
                    · rintro w' ⟨s0, s1, s2, s3⟩
                      go_simp
                      with_reducible rfl
                    rotate_left
                    · simp only [Act.put, List.setIfInBounds_toArray, List.set_cons_zero, List.set_cons_succ, i64_w, i32_w]
                      rfl
                    refine one_ (i := 2) (N := some 43) #[true, true, true, false, true, true, true, true, true, false, false, false] rfl rfl (one_of HT_.out (by kernel_rfl)) (by decide) (fun K hK => ?_)
                    refine value_ (w1 := ?_) (v := ?_) (by rfl) rfl ?_ ?_
                    rotate_left 2
                    · go_simp
                      constructor
                      · rfl
                      · rfl
                    refine hK.out _ _ ⟨(blk_cell (blk_alloc BK145.out _) 0).trans rfl, (blk_cell (blk_alloc BK145.out _) 1).trans rfl, (blk_cell (blk_alloc BK145.out _) 2).trans rfl, (blk_cell (blk_alloc BK145.out _) 3).trans rfl⟩ (fun hHeld => ?_)
                    clear hK K
                    refine norm_ (a' := ?_) ?_ ?_
                    rotate_left
                    · show Act.put _ (some 43) _ = _
                      simp only [Act.put, List.setIfInBounds_toArray, List.set_cons_zero, List.set_cons_succ, i64_w, i32_w]
                      rfl
                    refine one_ (i := 3) (N := some 44) #[true, true, true, true, true, true, true, true, true, false, false, false] rfl rfl (one_of HT_.out (by kernel_rfl)) (by decide) (fun K hK => ?_)
                    refine Kd.R_append_step k31 (w0 := w) w.heap.size (by rfl) (.tmp 41) (.tmp 43) 22 31 (.agg #[(.string ⟨#[]⟩), (.int .u64 0), (.int .i64 0), (.string ⟨#[]⟩)]) 48 rfl Try.underlying22 info31 rfl (by decide) (by omega) (.slice Ao22 x7_1.length co22) x7_1 (⟨t140, t141, t142, t143⟩ : S31) [.string t140, .int .u64 t141, .int .i64 t142, .string t143] (fun k_ => k_ ≠ gb145) (fun _ => False) rfl rfl ?aP (fun _ hk => hk.elim) ?aF ?aO ?aB ?aS ?aL ?_
                    (case aP => exact k31_mkM _ _ _ (⟨t140, t141, t142, t143⟩ : S31))
                    (case aB => exact (by repeat (first | (with_reducible first | exact HB.out | apply below_alloc | apply pw_below_drewN | apply below_drew1 | refine below_set ?_ GE145.out) | exact HB.out)))
                    (case aF => exact (fun k_ hk => Kd.freshB (g := gb145) (o := .cells #[.string t140, .int .u64 t141, .int .i64 t142, .string t143] 31 (0, 0)) (by (with_reducible repeat (first | refine blk_drewN ?_ _ | refine blk_drew ?_ | refine blk_alloc ?_ _)); exact BK145.out) k_ hk))
                    (case aO => exact (by (with_reducible repeat (first | apply Kd.R_alloc | apply Kd.R_drewN | apply Kd.R_drew)); exact HO_7.out))
                    (case aS => exact (below_size (by repeat (first | (with_reducible first | exact HB.out | apply below_alloc | apply pw_below_drewN | apply below_drew1 | refine below_set ?_ GE145.out) | exact HB.out))))
                    (case aL => have := LMc18.out; omega)
                    intro v147 w25 ho hb hg hat
                    rw [← Ny146.out] at ho
                    have n0_ := Aside0.mk (blk_grown (g := gb145) (o := .cells #[.string t140, .int .u64 t141, .int .i64 t142, .string t143] 31 (0, 0)) (by (with_reducible repeat (first | refine blk_drewN ?_ _ | refine blk_drew ?_ | refine blk_alloc ?_ _)); exact BK145.out) hg (Kd.R_away HO_7.out (fun _ hk => hk)))
                    have n1_ := Aside0.mk (hb)
                    have n2_ := Aside0.mk (ho)
                    clear BK145
                    clear HB
                    clear HO_7
                    have BK145 := n0_
                    have HB := n1_
                    have HO148 := n2_
                    clear n0_ n1_ n2_
                    clear ho hb hg hat
                    refine hK.out _ _ ⟨(blk_cell BK145.out 0).trans rfl, (blk_cell BK145.out 1).trans rfl, (blk_cell BK145.out 2).trans rfl, (blk_cell BK145.out 3).trans rfl⟩ (fun hHeld => ?_)
                    clear hK K
                    refine norm_ (a' := ?_) ?_ ?_
                    rotate_left
                    · show Act.put _ (some 44) _ = _
                      simp only [Act.put, List.setIfInBounds_toArray, List.set_cons_zero, List.set_cons_succ, i64_w, i32_w]
                      rfl
                    refine pure_ (i := 9) (N := some 7) (v := ?_) (a' := ?_) #[true, true, true, true, true, true, true, true, true, true, false, false] rfl rfl (any_of HT_.out (by kernel_rfl)) (fun _ _ _ h => h) (Or.inl ⟨by rfl, ?_⟩) ?_ ?_
                    rotate_left
                    · intro w'
                      go_simp
                      with_reducible rfl
                    rotate_left
                    · simp only [Act.put, List.setIfInBounds_toArray, List.set_cons_zero, List.set_cons_succ, i64_w, i32_w]
                      rfl
                    refine pure_ (i := 10) (N := some 8) (v := ?_) (a' := ?_) #[true, true, true, true, true, true, true, true, true, true, true, false] rfl rfl (any_of HT_.out (by kernel_rfl)) (fun _ _ _ h => h) (Or.inl ⟨by rfl, ?_⟩) ?_ ?_
                    rotate_left
                    · intro w'
                      go_simp
                      with_reducible rfl
                    rotate_left
                    · simp only [Act.put, List.setIfInBounds_toArray, List.set_cons_zero, List.set_cons_succ, i64_w, i32_w]
                      rfl
                    refine pure_ (i := 11) (N := some 9) (v := ?_) (a' := ?_) #[true, true, true, true, true, true, true, true, true, true, true, true] rfl rfl (any_of HT_.out (by kernel_rfl)) (fun _ _ _ h => h) (Or.inl ⟨by rfl, ?_⟩) ?_ ?_
                    rotate_left
                    · intro w'
                      go_simp
                      with_reducible rfl
                    rotate_left
                    · simp only [Act.put, List.setIfInBounds_toArray, List.set_cons_zero, List.set_cons_succ, i64_w, i32_w]
                      rfl
                    refine done_ (done_of HT_.out (by kernel_rfl)) ?_
                    try go_wp2
                    go_roundg k1
                    case measure => have := HK1.out; omega
                    case rel => exact ⟨(y146), (t140), (wrap64 (x9_1 + t144)), (by first | rfl | (simp; done) | (simp [*]; done)), (by first | rfl | (simp; done) | (simp [*]; done)), H', ⟨by have := HK1.out; omega⟩, ⟨by (with_reducible repeat (first | apply Kd.R_alloc | apply Kd.R_drewN | apply Kd.R_drew)); exact Kd.R_mono HO148.out (fun _ hk => trivial)⟩, ⟨by repeat (first | (with_reducible first | exact HB.out | apply below_alloc | apply pw_below_drewN | apply below_drew1 | refine below_set ?_ GE145.out) | exact HB.out)⟩⟩
                  · rw [if_neg c18] at H
                    exact absurd H (by simp)
            · rw [if_neg c7] at H
              exact absurd H (by simp)
          · rw [if_neg c6] at H
            exact absurd H (by simp)
        · rw [if_neg c5] at H
          have c5b0 : decide (x9_1 < (t135.size : Int)) = false := decide_eq_false c5
          clear c5
          obtain ⟨ji26, hji26⟩ : ∃ j_ : Int, (wrap64 ((a0.size : Int) - 4)) = j_ := ⟨_, rfl⟩
          replace H : (if 0 ≤ (ji26) then (if (ji26) ≤ (a0.size : Int) then ((block_whole.f (a0.extract ((ji26) : Int).toNat a0.size)).bind fun t149 => ((block_Build.f x7_1 t149).bind fun bt150 => (if bt150.2 = 0 then (if bt150.1.toList = a0.toList then (some (x7_1, 0)) else (some (([] : List (S31)), 7))) else (some (([] : List (S31)), 7))))) else (none)) else (none)) = some (r1, r2) := by first | (rw [hji26] at H; exact H) | (simp only [hji26] at H ⊢; exact H)
          have hji26w : (IntKind.i64.wrap ((a0.size : Int) - 4)) = ji26 := (i64_w _).trans hji26
          by_cases c27 : 0 ≤ (ji26)
          · rw [if_pos c27] at H
            have c27b0 := eq_true c27
            have c27b1 : decide (0 ≤ (ji26)) = true := decide_eq_true c27
            clear c27
            by_cases c28 : (ji26) ≤ (a0.size : Int)
            · rw [if_pos c28] at H
              have c28b0 := eq_true c28
              have c28b1 : decide ((ji26) ≤ (a0.size : Int)) = true := decide_eq_true c28
              clear c28
              replace H := Option.bind_eq_some_iff.mp H
              obtain ⟨t149, A290, H⟩ := H
              replace H : ((block_Build.f x7_1 t149).bind fun bt150 => (if bt150.2 = 0 then (if bt150.1.toList = a0.toList then (some (x7_1, 0)) else (some (([] : List (S31)), 7))) else (some (([] : List (S31)), 7)))) = some (r1, r2) := H
              have A29 := Aside0.mk A290
              clear A290
              replace H := Option.bind_eq_some_iff.mp H
              obtain ⟨⟨t150, t151⟩, A300, H⟩ := H
              replace H : (if t151 = 0 then (if t150.toList = a0.toList then (some (x7_1, 0)) else (some (([] : List (S31)), 7))) else (some (([] : List (S31)), 7))) = some (r1, r2) := H
              have A30 := Aside0.mk A300
              clear A300
              by_cases c31 : t151 = 0
              · rw [if_pos c31] at H
                have c31b0 : (t151 == 0) = true := beq_iff_eq.mpr c31
                have c31b1 : (t151 != 0) = false := bne_eq_false_iff_eq.mpr c31
                clear c31
                by_cases c32 : t150.toList = a0.toList
                · rw [if_pos c32] at H
                  have c32b0 : (t150.toList == a0.toList) = true := beq_iff_eq.mpr c32
                  have c32b1 : (t150.toList != a0.toList) = false := bne_eq_false_iff_eq.mpr c32
                  clear c32
                  simp only [Option.some.injEq, Prod.mk.injEq] at H
                  obtain ⟨rfl, rfl⟩ := H
                  go_wp2_with (first | ((with_reducible refine gate_callee (f := 32) rfl ?_); refine goesL_ (some 57) rfl rfl Try.func32 (by kernel_rfl) rfl #[.string (a0.extract ((ji26) : Int).toNat a0.size)] rfl (by (try simp only [List.map_toArray, List.map_cons, List.map_nil]); first | done | (simp only [hji26]; rfl) | rfl | (simp only [List.length_drop, List.length_take]; rfl)) ?_; (with_reducible refine (block_whole.calls (a0.extract ((ji26) : Int).toNat a0.size) t149 _ A29.out).mono ?_); rintro e w' ⟨rfl, ⟨nd, rfl⟩⟩; refine ⟨_, rfl, ?_⟩; obtain ⟨Ao33, co33, eo33⟩ := Kd.R_slice HO_7.out; subst eo33) | ((with_reducible refine gate_callee (f := 12) rfl ?_); refine goesL_ (some 58) rfl rfl Try.func12 (by kernel_rfl) rfl #[.slice Ao33 x7_1.length co33, .int .i64 t149] rfl (by (try simp only [List.map_toArray, List.map_cons, List.map_nil]); first | done | rfl | (simp only [List.length_drop, List.length_take]; rfl)) ?_; (with_reducible refine (block_Build.calls _ _ x7_1 t149 t150 t151 _ ?side1 ?side2 A30.out).mono ?_); (case side1 => repeat (first | exact (Kd.R_reads' HO_7.out).2.2 | (with_reducible refine Kd.C_alloc ?_ _) | (with_reducible refine Kd.C_drewN ?_ _) | (with_reducible refine Kd.C_drew ?_))); (case side2 => exact (Kd.R_reads' HO_7.out).2.1); rintro e w34 ⟨rfl, hb⟩; refine ⟨_, rfl, ?_⟩; have n0_ := Aside0.mk (Kd.R_below (by (with_reducible repeat (first | apply Kd.R_alloc | apply Kd.R_drewN | apply Kd.R_drew)); exact HO_7.out) hb); have n1_ := Aside0.mk (below_step (by repeat (first | (with_reducible first | exact HB.out | apply below_alloc | apply pw_below_drewN | apply below_drew1) | exact HB.out)) hb); clear HO_7; clear HB; have HO_7 := n0_; have HB := n1_; clear n0_ n1_; (try clear hb); (try clear hb2); (try clear hk); (try clear hi)))
                  go_ret2
                  exact ⟨_, by first | rfl | (simp [errW_none, errW_some] <;> rfl) | (simp only [← hji26]; first | rfl | (simp [errW_none, errW_some] <;> rfl)) | (simp [*, errW_none, errW_some] <;> rfl), by (with_reducible repeat (first | apply Kd.R_alloc | apply Kd.R_drewN | apply Kd.R_drew)); exact HO_7.out, by repeat (first | (with_reducible first | exact HB.out | apply below_alloc | apply pw_below_drewN | apply below_drew1) | exact HB.out)⟩
                · rw [if_neg c32] at H
                  have c32b0 : (t150.toList == a0.toList) = false := beq_eq_false_iff_ne.mpr c32
                  have c32b1 : (t150.toList != a0.toList) = true := bne_iff_ne.mpr c32
                  simp only [Option.some.injEq, Prod.mk.injEq] at H
                  obtain ⟨rfl, rfl⟩ := H
                  go_wp2_with (first | ((with_reducible refine gate_callee (f := 32) rfl ?_); refine goesL_ (some 57) rfl rfl Try.func32 (by kernel_rfl) rfl #[.string (a0.extract ((ji26) : Int).toNat a0.size)] rfl (by (try simp only [List.map_toArray, List.map_cons, List.map_nil]); first | done | (simp only [hji26]; rfl) | rfl | (simp only [List.length_drop, List.length_take]; rfl)) ?_; (with_reducible refine (block_whole.calls (a0.extract ((ji26) : Int).toNat a0.size) t149 _ A29.out).mono ?_); rintro e w' ⟨rfl, ⟨nd, rfl⟩⟩; refine ⟨_, rfl, ?_⟩; obtain ⟨Ao35, co35, eo35⟩ := Kd.R_slice HO_7.out; subst eo35) | ((with_reducible refine gate_callee (f := 12) rfl ?_); refine goesL_ (some 58) rfl rfl Try.func12 (by kernel_rfl) rfl #[.slice Ao35 x7_1.length co35, .int .i64 t149] rfl (by (try simp only [List.map_toArray, List.map_cons, List.map_nil]); first | done | rfl | (simp only [List.length_drop, List.length_take]; rfl)) ?_; (with_reducible refine (block_Build.calls _ _ x7_1 t149 t150 t151 _ ?side1 ?side2 A30.out).mono ?_); (case side1 => repeat (first | exact (Kd.R_reads' HO_7.out).2.2 | (with_reducible refine Kd.C_alloc ?_ _) | (with_reducible refine Kd.C_drewN ?_ _) | (with_reducible refine Kd.C_drew ?_))); (case side2 => exact (Kd.R_reads' HO_7.out).2.1); rintro e w36 ⟨rfl, hb⟩; refine ⟨_, rfl, ?_⟩; have n0_ := Aside0.mk (Kd.R_below (by (with_reducible repeat (first | apply Kd.R_alloc | apply Kd.R_drewN | apply Kd.R_drew)); exact HO_7.out) hb); have n1_ := Aside0.mk (below_step (by repeat (first | (with_reducible first | exact HB.out | apply below_alloc | apply pw_below_drewN | apply below_drew1) | exact HB.out)) hb); clear HO_7; clear HB; have HO_7 := n0_; have HB := n1_; clear n0_ n1_; (try clear hb); (try clear hb2); (try clear hk); (try clear hi)))
                  go_ret2
                  exact ⟨_, by first | rfl | (simp [errW_none, errW_some] <;> rfl) | (simp only [← hji26]; first | rfl | (simp [errW_none, errW_some] <;> rfl)) | (simp [*, errW_none, errW_some] <;> rfl), by first | exact Kd.R_nil _ _ _ _ _ | exact Kd.N_nil _ _ _ _ _ | exact Kd.V_nil _ _ _ _ _ | exact Kd.Q_nil _ _ _ _ _ | exact Kd.S_nil _ _ _ _ _, by repeat (first | (with_reducible first | exact HB.out | apply below_alloc | apply pw_below_drewN | apply below_drew1) | exact HB.out)⟩
              · rw [if_neg c31] at H
                have c31b0 : (t151 == 0) = false := beq_eq_false_iff_ne.mpr c31
                have c31b1 : (t151 != 0) = true := bne_iff_ne.mpr c31
                simp only [Option.some.injEq, Prod.mk.injEq] at H
                obtain ⟨rfl, rfl⟩ := H
                go_wp2_with (first | ((with_reducible refine gate_callee (f := 32) rfl ?_); refine goesL_ (some 57) rfl rfl Try.func32 (by kernel_rfl) rfl #[.string (a0.extract ((ji26) : Int).toNat a0.size)] rfl (by (try simp only [List.map_toArray, List.map_cons, List.map_nil]); first | done | (simp only [hji26]; rfl) | rfl | (simp only [List.length_drop, List.length_take]; rfl)) ?_; (with_reducible refine (block_whole.calls (a0.extract ((ji26) : Int).toNat a0.size) t149 _ A29.out).mono ?_); rintro e w' ⟨rfl, ⟨nd, rfl⟩⟩; refine ⟨_, rfl, ?_⟩; obtain ⟨Ao37, co37, eo37⟩ := Kd.R_slice HO_7.out; subst eo37) | ((with_reducible refine gate_callee (f := 12) rfl ?_); refine goesL_ (some 58) rfl rfl Try.func12 (by kernel_rfl) rfl #[.slice Ao37 x7_1.length co37, .int .i64 t149] rfl (by (try simp only [List.map_toArray, List.map_cons, List.map_nil]); first | done | rfl | (simp only [List.length_drop, List.length_take]; rfl)) ?_; (with_reducible refine (block_Build.calls _ _ x7_1 t149 t150 t151 _ ?side1 ?side2 A30.out).mono ?_); (case side1 => repeat (first | exact (Kd.R_reads' HO_7.out).2.2 | (with_reducible refine Kd.C_alloc ?_ _) | (with_reducible refine Kd.C_drewN ?_ _) | (with_reducible refine Kd.C_drew ?_))); (case side2 => exact (Kd.R_reads' HO_7.out).2.1); rintro e w38 ⟨rfl, hb⟩; refine ⟨_, rfl, ?_⟩; have n0_ := Aside0.mk (Kd.R_below (by (with_reducible repeat (first | apply Kd.R_alloc | apply Kd.R_drewN | apply Kd.R_drew)); exact HO_7.out) hb); have n1_ := Aside0.mk (below_step (by repeat (first | (with_reducible first | exact HB.out | apply below_alloc | apply pw_below_drewN | apply below_drew1) | exact HB.out)) hb); clear HO_7; clear HB; have HO_7 := n0_; have HB := n1_; clear n0_ n1_; (try clear hb); (try clear hb2); (try clear hk); (try clear hi)))
                go_ret2
                exact ⟨_, by first | rfl | (simp [errW_none, errW_some] <;> rfl) | (simp only [← hji26]; first | rfl | (simp [errW_none, errW_some] <;> rfl)) | (simp [*, errW_none, errW_some] <;> rfl), by first | exact Kd.R_nil _ _ _ _ _ | exact Kd.N_nil _ _ _ _ _ | exact Kd.V_nil _ _ _ _ _ | exact Kd.Q_nil _ _ _ _ _ | exact Kd.S_nil _ _ _ _ _, by repeat (first | (with_reducible first | exact HB.out | apply below_alloc | apply pw_below_drewN | apply below_drew1) | exact HB.out)⟩
            · rw [if_neg c28] at H
              exact absurd H (by simp)
          · rw [if_neg c27] at H
            exact absurd H (by simp)
  · replace c3 := Bool.eq_false_iff.mpr c3
    subst c3
    have H1 : (some (([] : List (S31)), 7)) = some (r1, r2) := by rw [if_neg (show ¬ (false = true) by decide)] at H; exact H
    clear H
    have H := H1
    clear H1
    simp only [Option.some.injEq, Prod.mk.injEq] at H
    obtain ⟨rfl, rfl⟩ := H
    go_enter Try.func19, Try.ntmps19
    go_wp2_with (first | ((with_reducible refine gate_callee (f := 30) rfl ?_); refine goesL_ (some 16) rfl rfl Try.func30 (by kernel_rfl) rfl #[.string a0] rfl (by (try simp only [List.map_toArray, List.map_cons, List.map_nil]); first | done | rfl | (simp only [List.length_drop, List.length_take]; rfl)) ?_; (with_reducible refine (block_parts.calls k a0 t135 t136 false _ A2.out).mono ?_); rintro e w39 ⟨v138, rfl, ho0, hb⟩; refine ⟨_, rfl, ?_⟩; have n0_ := Aside0.mk (Kd.R_lower ho0 (below_size (by repeat (first | (with_reducible first | exact HB.out | apply below_alloc | apply pw_below_drewN | apply below_drew1) | exact HB.out)))); have n1_ := Aside0.mk (below_step (by repeat (first | (with_reducible first | exact HB.out | apply below_alloc | apply pw_below_drewN | apply below_drew1) | exact HB.out)) hb); clear HB; have HO139 := n0_; have HB := n1_; clear n0_ n1_; (try clear hb); (try clear hb2); (try clear hk); (try clear hi); (try clear ho0)))
    go_ret2
    exact ⟨_, by first | rfl | (simp [errW_none, errW_some] <;> rfl) | (simp [*, errW_none, errW_some] <;> rfl), by first | exact Kd.R_nil _ _ _ _ _ | exact Kd.N_nil _ _ _ _ _ | exact Kd.V_nil _ _ _ _ _ | exact Kd.Q_nil _ _ _ _ _ | exact Kd.S_nil _ _ _ _ _, by repeat (first | (with_reducible first | exact HB.out | apply below_alloc | apply pw_below_drewN | apply below_drew1) | exact HB.out)⟩

def freshetlaw11_awake.f (k : Nat)  : Option (Bool) := (some (([(⟨(⟨#[97, 98]⟩ : ByteArray), 2, 1, (⟨#[120]⟩ : ByteArray)⟩ : S31), (⟨(⟨#[97, 98]⟩ : ByteArray), 1, 2, (⟨#[]⟩ : ByteArray)⟩ : S31), (⟨(⟨#[98]⟩ : ByteArray), 1, 1, (⟨#[]⟩ : ByteArray)⟩ : S31)] : List (S31)) : List (S31))).bind fun y152 => ((block_Build.f y152 16).bind fun bt155 => ((block_Rows.f k (⟨#[0, 0, 0, 0, 0, 0, 0, 0]⟩ : ByteArray)).bind fun bt157 => (if bt155.1.toList = ([0, 2, 97, 98, 2, 1, 1, 120, 2, 0, 1, 2, 0, 1, 98, 1, 1, 0, 0, 0, 0, 0, 1, 0, 0, 0, 16, 0, 0, 0] : List UInt8) then (if bt155.2 = 0 then (if bt157.2 = 7 then ((block_Order.f k y152).bind fun t161 => (some t161)) else (some false)) else (some false)) else (some false))))
theorem freshetlaw11_awake.mono : ∀ k, LeO (freshetlaw11_awake.f k ) (freshetlaw11_awake.f (k + 1) ) := by
  intro  k
  unfold freshetlaw11_awake.f
  repeat' first
      | (with_reducible exact block_Order.mono _ _)
      | (with_reducible exact block_Rows.mono _ _)
      | (with_reducible exact LeO.refl _)
      | (with_reducible exact LeO.none _)
      | (with_reducible refine LeO.ite ?_ ?_)
      | (with_reducible refine LeO.bind ?_ (fun _ => ?_))
      | exact block_Order.mono _ _
      | exact block_Rows.mono _ _
      | exact LeO.none _
      | refine LeO.ite ?_ ?_
      | refine LeO.bind ?_ (fun _ => ?_)
set_option maxHeartbeats 8000000 in
set_option maxRecDepth 100000 in
theorem freshetlaw11_awake.calls (k : Nat)  (r : Bool) (w : World) (h : freshetlaw11_awake.f k  = some r) :
    Calls Try.prog 10 #[] w fun e w' => e = .returned (.bool r) ∧ Below w.heap.size w w' := by
  have hu31 := Try.underlying31
  have HB := Aside0.mk (Below.refl w.heap.size w)
  have H : ((some (([(⟨(⟨#[97, 98]⟩ : ByteArray), 2, 1, (⟨#[120]⟩ : ByteArray)⟩ : S31), (⟨(⟨#[97, 98]⟩ : ByteArray), 1, 2, (⟨#[]⟩ : ByteArray)⟩ : S31), (⟨(⟨#[98]⟩ : ByteArray), 1, 1, (⟨#[]⟩ : ByteArray)⟩ : S31)] : List (S31)) : List (S31))).bind fun y152 => ((block_Build.f y152 16).bind fun bt155 => ((block_Rows.f k (⟨#[0, 0, 0, 0, 0, 0, 0, 0]⟩ : ByteArray)).bind fun bt157 => (if bt155.1.toList = ([0, 2, 97, 98, 2, 1, 1, 120, 2, 0, 1, 2, 0, 1, 98, 1, 1, 0, 0, 0, 0, 0, 1, 0, 0, 0, 16, 0, 0, 0] : List UInt8) then (if bt155.2 = 0 then (if bt157.2 = 7 then ((block_Order.f k y152).bind fun t161 => (some t161)) else (some false)) else (some false)) else (some false))))) = some r := h
  clear h
  obtain ⟨y152, hy152⟩ : ∃ y_ : List (S31), y_ = (([(⟨(⟨#[97, 98]⟩ : ByteArray), 2, 1, (⟨#[120]⟩ : ByteArray)⟩ : S31), (⟨(⟨#[97, 98]⟩ : ByteArray), 1, 2, (⟨#[]⟩ : ByteArray)⟩ : S31), (⟨(⟨#[98]⟩ : ByteArray), 1, 1, (⟨#[]⟩ : ByteArray)⟩ : S31)] : List (S31))) := ⟨_, rfl⟩
  replace H : ((block_Build.f y152 16).bind fun bt155 => ((block_Rows.f k (⟨#[0, 0, 0, 0, 0, 0, 0, 0]⟩ : ByteArray)).bind fun bt157 => (if bt155.1.toList = ([0, 2, 97, 98, 2, 1, 1, 120, 2, 0, 1, 2, 0, 1, 98, 1, 1, 0, 0, 0, 0, 0, 1, 0, 0, 0, 16, 0, 0, 0] : List UInt8) then (if bt155.2 = 0 then (if bt157.2 = 7 then ((block_Order.f k y152).bind fun t161 => (some t161)) else (some false)) else (some false)) else (some false)))) = some r := by first | (rw [hy152]; with_reducible exact H) | (have H2_ := (Option.bind_some _ _).symm.trans H; rw [hy152]; with_reducible exact H2_) | (have H2_ := (Option.bind_some _ _).symm.trans H; with_reducible exact H2_) | with_reducible exact H | (rw [hy152]; exact H) | exact H
  have Ny152 := Aside0.mk hy152
  clear hy152
  replace H := Option.bind_eq_some_iff.mp H
  obtain ⟨⟨t155, t156⟩, A10, H⟩ := H
  replace H : ((block_Rows.f k (⟨#[0, 0, 0, 0, 0, 0, 0, 0]⟩ : ByteArray)).bind fun bt157 => (if t155.toList = ([0, 2, 97, 98, 2, 1, 1, 120, 2, 0, 1, 2, 0, 1, 98, 1, 1, 0, 0, 0, 0, 0, 1, 0, 0, 0, 16, 0, 0, 0] : List UInt8) then (if t156 = 0 then (if bt157.2 = 7 then ((block_Order.f k y152).bind fun t161 => (some t161)) else (some false)) else (some false)) else (some false))) = some r := H
  have A1 := Aside0.mk A10
  clear A10
  replace H := Option.bind_eq_some_iff.mp H
  obtain ⟨⟨t157, t158⟩, A20, H⟩ := H
  replace H : (if t155.toList = ([0, 2, 97, 98, 2, 1, 1, 120, 2, 0, 1, 2, 0, 1, 98, 1, 1, 0, 0, 0, 0, 0, 1, 0, 0, 0, 16, 0, 0, 0] : List UInt8) then (if t156 = 0 then (if t158 = 7 then ((block_Order.f k y152).bind fun t161 => (some t161)) else (some false)) else (some false)) else (some false)) = some r := H
  have A2 := Aside0.mk A20
  clear A20
  by_cases c3 : t155.toList = ([0, 2, 97, 98, 2, 1, 1, 120, 2, 0, 1, 2, 0, 1, 98, 1, 1, 0, 0, 0, 0, 0, 1, 0, 0, 0, 16, 0, 0, 0] : List UInt8)
  · rw [if_pos c3] at H
    have c3b0 : (t155.toList == ([0, 2, 97, 98, 2, 1, 1, 120, 2, 0, 1, 2, 0, 1, 98, 1, 1, 0, 0, 0, 0, 0, 1, 0, 0, 0, 16, 0, 0, 0] : List UInt8)) = true := beq_iff_eq.mpr c3
    have c3b1 : (t155.toList != ([0, 2, 97, 98, 2, 1, 1, 120, 2, 0, 1, 2, 0, 1, 98, 1, 1, 0, 0, 0, 0, 0, 1, 0, 0, 0, 16, 0, 0, 0] : List UInt8)) = false := bne_eq_false_iff_eq.mpr c3
    clear c3
    by_cases c4 : t156 = 0
    · rw [if_pos c4] at H
      have c4b0 : (t156 == 0) = true := beq_iff_eq.mpr c4
      have c4b1 : (t156 != 0) = false := bne_eq_false_iff_eq.mpr c4
      clear c4
      by_cases c5 : t158 = 7
      · rw [if_pos c5] at H
        have c5b0 : (t158 == 7) = true := beq_iff_eq.mpr c5
        have c5b1 : (t158 != 7) = false := bne_eq_false_iff_eq.mpr c5
        clear c5
        replace H := Option.bind_eq_some_iff.mp H
        obtain ⟨t161, A60, H⟩ := H
        replace H : (some t161) = some r := H
        have A6 := Aside0.mk A60
        clear A60
        obtain rfl := Option.some.inj H
        go_enter Try.func10, Try.ntmps10
        go_wp2_with (first | ((with_reducible refine gate_dst (N := 9) rfl ?_); refine Kd.R_lit k31 _ 31 ?hg (N := 9) ?hd (xs := ([(⟨(⟨#[97, 98]⟩ : ByteArray), 2, 1, (⟨#[120]⟩ : ByteArray)⟩ : S31), (⟨(⟨#[97, 98]⟩ : ByteArray), 1, 2, (⟨#[]⟩ : ByteArray)⟩ : S31), (⟨(⟨#[98]⟩ : ByteArray), 1, 1, (⟨#[]⟩ : ByteArray)⟩ : S31)] : List (S31))) (inner := [.string (⟨#[97, 98]⟩ : ByteArray), .int .u64 2, .int .i64 1, .string (⟨#[120]⟩ : ByteArray), .string (⟨#[97, 98]⟩ : ByteArray), .int .u64 1, .int .i64 2, .string (⟨#[]⟩ : ByteArray), .string (⟨#[98]⟩ : ByteArray), .int .u64 1, .int .i64 1, .string (⟨#[]⟩ : ByteArray)]) (ok := fun _ => True) (okp := fun _ => True) ?hr ?hp (fun _ hk => hk) trivial (Below.refl _ _) (Nat.le_refl _) (by simp) ?_; (case hd => rfl); (case hg => rfl); (case hr => first | (go_simp; done) | (go_simp; rfl)); (case hp => exact (Reps.c4 (show Kd.M k31 _ _ _ (⟨(⟨#[97, 98]⟩ : ByteArray), 2, 1, (⟨#[120]⟩ : ByteArray)⟩ : S31) [.string (⟨#[97, 98]⟩ : ByteArray), .int .u64 2, .int .i64 1, .string (⟨#[120]⟩ : ByteArray)] from (k31_mkM _ _ _ (⟨(⟨#[97, 98]⟩ : ByteArray), 2, 1, (⟨#[120]⟩ : ByteArray)⟩ : S31) )) (Reps.c4 (show Kd.M k31 _ _ _ (⟨(⟨#[97, 98]⟩ : ByteArray), 1, 2, (⟨#[]⟩ : ByteArray)⟩ : S31) [.string (⟨#[97, 98]⟩ : ByteArray), .int .u64 1, .int .i64 2, .string (⟨#[]⟩ : ByteArray)] from (k31_mkM _ _ _ (⟨(⟨#[97, 98]⟩ : ByteArray), 1, 2, (⟨#[]⟩ : ByteArray)⟩ : S31) )) (Reps.c4 (show Kd.M k31 _ _ _ (⟨(⟨#[98]⟩ : ByteArray), 1, 1, (⟨#[]⟩ : ByteArray)⟩ : S31) [.string (⟨#[98]⟩ : ByteArray), .int .u64 1, .int .i64 1, .string (⟨#[]⟩ : ByteArray)] from (k31_mkM _ _ _ (⟨(⟨#[98]⟩ : ByteArray), 1, 1, (⟨#[]⟩ : ByteArray)⟩ : S31) )) (Reps.none _ _))))); intro v153 w7 ho8 hb hg_ hnew_; clear hg_ hnew_; (first | rw [← Ny152.out] at ho8 | (simp only [Int.reduceToNat] at ho8; rw [← Ny152.out] at ho8)); have n0_ := Aside0.mk (Kd.R_lower ho8 (below_size (by repeat (first | (with_reducible first | exact HB.out | apply below_alloc | apply pw_below_drewN | apply below_drew1) | exact HB.out)))); have n1_ := Aside0.mk (below_step (by repeat (first | (with_reducible first | exact HB.out | apply below_alloc | apply pw_below_drewN | apply below_drew1) | exact HB.out)) hb); clear HB; have HO154 := n0_; have HB := n1_; clear n0_ n1_; clear hb ho8; obtain ⟨Ao9, co9, eo9⟩ := Kd.R_slice HO154.out; subst eo9) | ((with_reducible refine gate_callee (f := 12) rfl ?_); refine goesL_ (some 12) rfl rfl Try.func12 (by kernel_rfl) rfl #[.slice Ao9 y152.length co9, .int .i64 16] rfl (by (try simp only [List.map_toArray, List.map_cons, List.map_nil]); first | done | rfl | (simp only [List.length_drop, List.length_take]; rfl)) ?_; (with_reducible refine (block_Build.calls _ _ y152 16 t155 t156 _ ?side1 ?side2 A1.out).mono ?_); (case side1 => repeat (first | exact (Kd.R_reads' HO154.out).2.2 | (with_reducible refine Kd.C_alloc ?_ _) | (with_reducible refine Kd.C_drewN ?_ _) | (with_reducible refine Kd.C_drew ?_))); (case side2 => exact (Kd.R_reads' HO154.out).2.1); rintro e w10 ⟨rfl, hb⟩; refine ⟨_, rfl, ?_⟩; have n0_ := Aside0.mk (Kd.R_below (by (with_reducible repeat (first | apply Kd.R_alloc | apply Kd.R_drewN | apply Kd.R_drew)); exact HO154.out) hb); have n1_ := Aside0.mk (below_step (by repeat (first | (with_reducible first | exact HB.out | apply below_alloc | apply pw_below_drewN | apply below_drew1) | exact HB.out)) hb); clear HO154; clear HB; have HO154 := n0_; have HB := n1_; clear n0_ n1_; (try clear hb); (try clear hb2); (try clear hk); (try clear hi)) | ((with_reducible refine gate_callee (f := 19) rfl ?_); refine goesL_ (some 16) rfl rfl Try.func19 (by kernel_rfl) rfl #[.string (⟨#[0, 0, 0, 0, 0, 0, 0, 0]⟩ : ByteArray)] rfl (by (try simp only [List.map_toArray, List.map_cons, List.map_nil]); first | done | rfl | (simp only [List.length_drop, List.length_take]; rfl)) ?_; (with_reducible refine (block_Rows.calls k (⟨#[0, 0, 0, 0, 0, 0, 0, 0]⟩ : ByteArray) t157 t158 _ A2.out).mono ?_); rintro e w11 ⟨v159, rfl, ho0, hb⟩; refine ⟨_, rfl, ?_⟩; have n0_ := Aside0.mk (Kd.R_elder' (by (with_reducible repeat (first | apply Kd.R_alloc | apply Kd.R_drewN | apply Kd.R_drew)); exact HO154.out) (Kd.R_base ho0) hb); have n1_ := Aside0.mk (Kd.R_lower (Kd.R_new' ho0 (Kd.R_lt (by (with_reducible repeat (first | apply Kd.R_alloc | apply Kd.R_drewN | apply Kd.R_drew)); exact HO154.out))) (below_size (by repeat (first | (with_reducible first | exact HB.out | apply below_alloc | apply pw_below_drewN | apply below_drew1) | exact HB.out)))); have n2_ := Aside0.mk (below_step (by repeat (first | (with_reducible first | exact HB.out | apply below_alloc | apply pw_below_drewN | apply below_drew1) | exact HB.out)) hb); clear HO154; clear HB; have HO154 := n0_; have HO160 := n1_; have HB := n2_; clear n0_ n1_ n2_; (try clear hb); (try clear hb2); (try clear hk); (try clear hi); (try clear ho0)) | (go_at_call 16; (with_reducible refine (block_Order.calls k _ _ y152 t161 _ ?side1 ?side2 A6.out).mono ?_); (case side1 => repeat (first | exact (Kd.R_reads' HO154.out).2.2 | (with_reducible refine Kd.C_alloc ?_ _) | (with_reducible refine Kd.C_drewN ?_ _) | (with_reducible refine Kd.C_drew ?_))); (case side2 => exact (Kd.R_reads' HO154.out).2.1); rintro e w12 ⟨rfl, hb⟩; have n0_ := Aside0.mk (Kd.R_below (by (with_reducible repeat (first | apply Kd.R_alloc | apply Kd.R_drewN | apply Kd.R_drew)); exact HO154.out) hb); have n1_ := Aside0.mk (Kd.R_below (by (with_reducible repeat (first | apply Kd.R_alloc | apply Kd.R_drewN | apply Kd.R_drew)); exact HO160.out) hb); have n2_ := Aside0.mk (below_step (by repeat (first | (with_reducible first | exact HB.out | apply below_alloc | apply pw_below_drewN | apply below_drew1) | exact HB.out)) hb); clear HO154; clear HO160; clear HB; have HO154 := n0_; have HO160 := n1_; have HB := n2_; clear n0_ n1_ n2_; (try clear hb); (try clear hb2); (try clear hk); (try clear hi)))
        go_ret
        exact ⟨by first | rfl | (simp [errW_none, errW_some] <;> rfl) | (simp [*, errW_none, errW_some] <;> rfl), by repeat (first | (with_reducible first | exact HB.out | apply below_alloc | apply pw_below_drewN | apply below_drew1) | exact HB.out)⟩
      · rw [if_neg c5] at H
        have c5b0 : (t158 == 7) = false := beq_eq_false_iff_ne.mpr c5
        have c5b1 : (t158 != 7) = true := bne_iff_ne.mpr c5
        obtain rfl := Option.some.inj H
        go_enter Try.func10, Try.ntmps10
        go_wp2_with (first | ((with_reducible refine gate_dst (N := 9) rfl ?_); refine Kd.R_lit k31 _ 31 ?hg (N := 9) ?hd (xs := ([(⟨(⟨#[97, 98]⟩ : ByteArray), 2, 1, (⟨#[120]⟩ : ByteArray)⟩ : S31), (⟨(⟨#[97, 98]⟩ : ByteArray), 1, 2, (⟨#[]⟩ : ByteArray)⟩ : S31), (⟨(⟨#[98]⟩ : ByteArray), 1, 1, (⟨#[]⟩ : ByteArray)⟩ : S31)] : List (S31))) (inner := [.string (⟨#[97, 98]⟩ : ByteArray), .int .u64 2, .int .i64 1, .string (⟨#[120]⟩ : ByteArray), .string (⟨#[97, 98]⟩ : ByteArray), .int .u64 1, .int .i64 2, .string (⟨#[]⟩ : ByteArray), .string (⟨#[98]⟩ : ByteArray), .int .u64 1, .int .i64 1, .string (⟨#[]⟩ : ByteArray)]) (ok := fun _ => True) (okp := fun _ => True) ?hr ?hp (fun _ hk => hk) trivial (Below.refl _ _) (Nat.le_refl _) (by simp) ?_; (case hd => rfl); (case hg => rfl); (case hr => first | (go_simp; done) | (go_simp; rfl)); (case hp => exact (Reps.c4 (show Kd.M k31 _ _ _ (⟨(⟨#[97, 98]⟩ : ByteArray), 2, 1, (⟨#[120]⟩ : ByteArray)⟩ : S31) [.string (⟨#[97, 98]⟩ : ByteArray), .int .u64 2, .int .i64 1, .string (⟨#[120]⟩ : ByteArray)] from (k31_mkM _ _ _ (⟨(⟨#[97, 98]⟩ : ByteArray), 2, 1, (⟨#[120]⟩ : ByteArray)⟩ : S31) )) (Reps.c4 (show Kd.M k31 _ _ _ (⟨(⟨#[97, 98]⟩ : ByteArray), 1, 2, (⟨#[]⟩ : ByteArray)⟩ : S31) [.string (⟨#[97, 98]⟩ : ByteArray), .int .u64 1, .int .i64 2, .string (⟨#[]⟩ : ByteArray)] from (k31_mkM _ _ _ (⟨(⟨#[97, 98]⟩ : ByteArray), 1, 2, (⟨#[]⟩ : ByteArray)⟩ : S31) )) (Reps.c4 (show Kd.M k31 _ _ _ (⟨(⟨#[98]⟩ : ByteArray), 1, 1, (⟨#[]⟩ : ByteArray)⟩ : S31) [.string (⟨#[98]⟩ : ByteArray), .int .u64 1, .int .i64 1, .string (⟨#[]⟩ : ByteArray)] from (k31_mkM _ _ _ (⟨(⟨#[98]⟩ : ByteArray), 1, 1, (⟨#[]⟩ : ByteArray)⟩ : S31) )) (Reps.none _ _))))); intro v153 w13 ho14 hb hg_ hnew_; clear hg_ hnew_; (first | rw [← Ny152.out] at ho14 | (simp only [Int.reduceToNat] at ho14; rw [← Ny152.out] at ho14)); have n0_ := Aside0.mk (Kd.R_lower ho14 (below_size (by repeat (first | (with_reducible first | exact HB.out | apply below_alloc | apply pw_below_drewN | apply below_drew1) | exact HB.out)))); have n1_ := Aside0.mk (below_step (by repeat (first | (with_reducible first | exact HB.out | apply below_alloc | apply pw_below_drewN | apply below_drew1) | exact HB.out)) hb); clear HB; have HO154 := n0_; have HB := n1_; clear n0_ n1_; clear hb ho14; obtain ⟨Ao15, co15, eo15⟩ := Kd.R_slice HO154.out; subst eo15) | ((with_reducible refine gate_callee (f := 12) rfl ?_); refine goesL_ (some 12) rfl rfl Try.func12 (by kernel_rfl) rfl #[.slice Ao15 y152.length co15, .int .i64 16] rfl (by (try simp only [List.map_toArray, List.map_cons, List.map_nil]); first | done | rfl | (simp only [List.length_drop, List.length_take]; rfl)) ?_; (with_reducible refine (block_Build.calls _ _ y152 16 t155 t156 _ ?side1 ?side2 A1.out).mono ?_); (case side1 => repeat (first | exact (Kd.R_reads' HO154.out).2.2 | (with_reducible refine Kd.C_alloc ?_ _) | (with_reducible refine Kd.C_drewN ?_ _) | (with_reducible refine Kd.C_drew ?_))); (case side2 => exact (Kd.R_reads' HO154.out).2.1); rintro e w16 ⟨rfl, hb⟩; refine ⟨_, rfl, ?_⟩; have n0_ := Aside0.mk (Kd.R_below (by (with_reducible repeat (first | apply Kd.R_alloc | apply Kd.R_drewN | apply Kd.R_drew)); exact HO154.out) hb); have n1_ := Aside0.mk (below_step (by repeat (first | (with_reducible first | exact HB.out | apply below_alloc | apply pw_below_drewN | apply below_drew1) | exact HB.out)) hb); clear HO154; clear HB; have HO154 := n0_; have HB := n1_; clear n0_ n1_; (try clear hb); (try clear hb2); (try clear hk); (try clear hi)) | ((with_reducible refine gate_callee (f := 19) rfl ?_); refine goesL_ (some 16) rfl rfl Try.func19 (by kernel_rfl) rfl #[.string (⟨#[0, 0, 0, 0, 0, 0, 0, 0]⟩ : ByteArray)] rfl (by (try simp only [List.map_toArray, List.map_cons, List.map_nil]); first | done | rfl | (simp only [List.length_drop, List.length_take]; rfl)) ?_; (with_reducible refine (block_Rows.calls k (⟨#[0, 0, 0, 0, 0, 0, 0, 0]⟩ : ByteArray) t157 t158 _ A2.out).mono ?_); rintro e w17 ⟨v159, rfl, ho0, hb⟩; refine ⟨_, rfl, ?_⟩; have n0_ := Aside0.mk (Kd.R_elder' (by (with_reducible repeat (first | apply Kd.R_alloc | apply Kd.R_drewN | apply Kd.R_drew)); exact HO154.out) (Kd.R_base ho0) hb); have n1_ := Aside0.mk (Kd.R_lower (Kd.R_new' ho0 (Kd.R_lt (by (with_reducible repeat (first | apply Kd.R_alloc | apply Kd.R_drewN | apply Kd.R_drew)); exact HO154.out))) (below_size (by repeat (first | (with_reducible first | exact HB.out | apply below_alloc | apply pw_below_drewN | apply below_drew1) | exact HB.out)))); have n2_ := Aside0.mk (below_step (by repeat (first | (with_reducible first | exact HB.out | apply below_alloc | apply pw_below_drewN | apply below_drew1) | exact HB.out)) hb); clear HO154; clear HB; have HO154 := n0_; have HO160 := n1_; have HB := n2_; clear n0_ n1_ n2_; (try clear hb); (try clear hb2); (try clear hk); (try clear hi); (try clear ho0)))
        go_ret
        exact ⟨by first | rfl | (simp [errW_none, errW_some] <;> rfl) | (simp [*, errW_none, errW_some] <;> rfl), by repeat (first | (with_reducible first | exact HB.out | apply below_alloc | apply pw_below_drewN | apply below_drew1) | exact HB.out)⟩
    · rw [if_neg c4] at H
      have c4b0 : (t156 == 0) = false := beq_eq_false_iff_ne.mpr c4
      have c4b1 : (t156 != 0) = true := bne_iff_ne.mpr c4
      obtain rfl := Option.some.inj H
      go_enter Try.func10, Try.ntmps10
      go_wp2_with (first | ((with_reducible refine gate_dst (N := 9) rfl ?_); refine Kd.R_lit k31 _ 31 ?hg (N := 9) ?hd (xs := ([(⟨(⟨#[97, 98]⟩ : ByteArray), 2, 1, (⟨#[120]⟩ : ByteArray)⟩ : S31), (⟨(⟨#[97, 98]⟩ : ByteArray), 1, 2, (⟨#[]⟩ : ByteArray)⟩ : S31), (⟨(⟨#[98]⟩ : ByteArray), 1, 1, (⟨#[]⟩ : ByteArray)⟩ : S31)] : List (S31))) (inner := [.string (⟨#[97, 98]⟩ : ByteArray), .int .u64 2, .int .i64 1, .string (⟨#[120]⟩ : ByteArray), .string (⟨#[97, 98]⟩ : ByteArray), .int .u64 1, .int .i64 2, .string (⟨#[]⟩ : ByteArray), .string (⟨#[98]⟩ : ByteArray), .int .u64 1, .int .i64 1, .string (⟨#[]⟩ : ByteArray)]) (ok := fun _ => True) (okp := fun _ => True) ?hr ?hp (fun _ hk => hk) trivial (Below.refl _ _) (Nat.le_refl _) (by simp) ?_; (case hd => rfl); (case hg => rfl); (case hr => first | (go_simp; done) | (go_simp; rfl)); (case hp => exact (Reps.c4 (show Kd.M k31 _ _ _ (⟨(⟨#[97, 98]⟩ : ByteArray), 2, 1, (⟨#[120]⟩ : ByteArray)⟩ : S31) [.string (⟨#[97, 98]⟩ : ByteArray), .int .u64 2, .int .i64 1, .string (⟨#[120]⟩ : ByteArray)] from (k31_mkM _ _ _ (⟨(⟨#[97, 98]⟩ : ByteArray), 2, 1, (⟨#[120]⟩ : ByteArray)⟩ : S31) )) (Reps.c4 (show Kd.M k31 _ _ _ (⟨(⟨#[97, 98]⟩ : ByteArray), 1, 2, (⟨#[]⟩ : ByteArray)⟩ : S31) [.string (⟨#[97, 98]⟩ : ByteArray), .int .u64 1, .int .i64 2, .string (⟨#[]⟩ : ByteArray)] from (k31_mkM _ _ _ (⟨(⟨#[97, 98]⟩ : ByteArray), 1, 2, (⟨#[]⟩ : ByteArray)⟩ : S31) )) (Reps.c4 (show Kd.M k31 _ _ _ (⟨(⟨#[98]⟩ : ByteArray), 1, 1, (⟨#[]⟩ : ByteArray)⟩ : S31) [.string (⟨#[98]⟩ : ByteArray), .int .u64 1, .int .i64 1, .string (⟨#[]⟩ : ByteArray)] from (k31_mkM _ _ _ (⟨(⟨#[98]⟩ : ByteArray), 1, 1, (⟨#[]⟩ : ByteArray)⟩ : S31) )) (Reps.none _ _))))); intro v153 w18 ho19 hb hg_ hnew_; clear hg_ hnew_; (first | rw [← Ny152.out] at ho19 | (simp only [Int.reduceToNat] at ho19; rw [← Ny152.out] at ho19)); have n0_ := Aside0.mk (Kd.R_lower ho19 (below_size (by repeat (first | (with_reducible first | exact HB.out | apply below_alloc | apply pw_below_drewN | apply below_drew1) | exact HB.out)))); have n1_ := Aside0.mk (below_step (by repeat (first | (with_reducible first | exact HB.out | apply below_alloc | apply pw_below_drewN | apply below_drew1) | exact HB.out)) hb); clear HB; have HO154 := n0_; have HB := n1_; clear n0_ n1_; clear hb ho19; obtain ⟨Ao20, co20, eo20⟩ := Kd.R_slice HO154.out; subst eo20) | ((with_reducible refine gate_callee (f := 12) rfl ?_); refine goesL_ (some 12) rfl rfl Try.func12 (by kernel_rfl) rfl #[.slice Ao20 y152.length co20, .int .i64 16] rfl (by (try simp only [List.map_toArray, List.map_cons, List.map_nil]); first | done | rfl | (simp only [List.length_drop, List.length_take]; rfl)) ?_; (with_reducible refine (block_Build.calls _ _ y152 16 t155 t156 _ ?side1 ?side2 A1.out).mono ?_); (case side1 => repeat (first | exact (Kd.R_reads' HO154.out).2.2 | (with_reducible refine Kd.C_alloc ?_ _) | (with_reducible refine Kd.C_drewN ?_ _) | (with_reducible refine Kd.C_drew ?_))); (case side2 => exact (Kd.R_reads' HO154.out).2.1); rintro e w21 ⟨rfl, hb⟩; refine ⟨_, rfl, ?_⟩; have n0_ := Aside0.mk (Kd.R_below (by (with_reducible repeat (first | apply Kd.R_alloc | apply Kd.R_drewN | apply Kd.R_drew)); exact HO154.out) hb); have n1_ := Aside0.mk (below_step (by repeat (first | (with_reducible first | exact HB.out | apply below_alloc | apply pw_below_drewN | apply below_drew1) | exact HB.out)) hb); clear HO154; clear HB; have HO154 := n0_; have HB := n1_; clear n0_ n1_; (try clear hb); (try clear hb2); (try clear hk); (try clear hi)) | ((with_reducible refine gate_callee (f := 19) rfl ?_); refine goesL_ (some 16) rfl rfl Try.func19 (by kernel_rfl) rfl #[.string (⟨#[0, 0, 0, 0, 0, 0, 0, 0]⟩ : ByteArray)] rfl (by (try simp only [List.map_toArray, List.map_cons, List.map_nil]); first | done | rfl | (simp only [List.length_drop, List.length_take]; rfl)) ?_; (with_reducible refine (block_Rows.calls k (⟨#[0, 0, 0, 0, 0, 0, 0, 0]⟩ : ByteArray) t157 t158 _ A2.out).mono ?_); rintro e w22 ⟨v159, rfl, ho0, hb⟩; refine ⟨_, rfl, ?_⟩; have n0_ := Aside0.mk (Kd.R_elder' (by (with_reducible repeat (first | apply Kd.R_alloc | apply Kd.R_drewN | apply Kd.R_drew)); exact HO154.out) (Kd.R_base ho0) hb); have n1_ := Aside0.mk (Kd.R_lower (Kd.R_new' ho0 (Kd.R_lt (by (with_reducible repeat (first | apply Kd.R_alloc | apply Kd.R_drewN | apply Kd.R_drew)); exact HO154.out))) (below_size (by repeat (first | (with_reducible first | exact HB.out | apply below_alloc | apply pw_below_drewN | apply below_drew1) | exact HB.out)))); have n2_ := Aside0.mk (below_step (by repeat (first | (with_reducible first | exact HB.out | apply below_alloc | apply pw_below_drewN | apply below_drew1) | exact HB.out)) hb); clear HO154; clear HB; have HO154 := n0_; have HO160 := n1_; have HB := n2_; clear n0_ n1_ n2_; (try clear hb); (try clear hb2); (try clear hk); (try clear hi); (try clear ho0)))
      go_ret
      exact ⟨by first | rfl | (simp [errW_none, errW_some] <;> rfl) | (simp [*, errW_none, errW_some] <;> rfl), by repeat (first | (with_reducible first | exact HB.out | apply below_alloc | apply pw_below_drewN | apply below_drew1) | exact HB.out)⟩
  · rw [if_neg c3] at H
    have c3b0 : (t155.toList == ([0, 2, 97, 98, 2, 1, 1, 120, 2, 0, 1, 2, 0, 1, 98, 1, 1, 0, 0, 0, 0, 0, 1, 0, 0, 0, 16, 0, 0, 0] : List UInt8)) = false := beq_eq_false_iff_ne.mpr c3
    have c3b1 : (t155.toList != ([0, 2, 97, 98, 2, 1, 1, 120, 2, 0, 1, 2, 0, 1, 98, 1, 1, 0, 0, 0, 0, 0, 1, 0, 0, 0, 16, 0, 0, 0] : List UInt8)) = true := bne_iff_ne.mpr c3
    obtain rfl := Option.some.inj H
    go_enter Try.func10, Try.ntmps10
    go_wp2_with (first | ((with_reducible refine gate_dst (N := 9) rfl ?_); refine Kd.R_lit k31 _ 31 ?hg (N := 9) ?hd (xs := ([(⟨(⟨#[97, 98]⟩ : ByteArray), 2, 1, (⟨#[120]⟩ : ByteArray)⟩ : S31), (⟨(⟨#[97, 98]⟩ : ByteArray), 1, 2, (⟨#[]⟩ : ByteArray)⟩ : S31), (⟨(⟨#[98]⟩ : ByteArray), 1, 1, (⟨#[]⟩ : ByteArray)⟩ : S31)] : List (S31))) (inner := [.string (⟨#[97, 98]⟩ : ByteArray), .int .u64 2, .int .i64 1, .string (⟨#[120]⟩ : ByteArray), .string (⟨#[97, 98]⟩ : ByteArray), .int .u64 1, .int .i64 2, .string (⟨#[]⟩ : ByteArray), .string (⟨#[98]⟩ : ByteArray), .int .u64 1, .int .i64 1, .string (⟨#[]⟩ : ByteArray)]) (ok := fun _ => True) (okp := fun _ => True) ?hr ?hp (fun _ hk => hk) trivial (Below.refl _ _) (Nat.le_refl _) (by simp) ?_; (case hd => rfl); (case hg => rfl); (case hr => first | (go_simp; done) | (go_simp; rfl)); (case hp => exact (Reps.c4 (show Kd.M k31 _ _ _ (⟨(⟨#[97, 98]⟩ : ByteArray), 2, 1, (⟨#[120]⟩ : ByteArray)⟩ : S31) [.string (⟨#[97, 98]⟩ : ByteArray), .int .u64 2, .int .i64 1, .string (⟨#[120]⟩ : ByteArray)] from (k31_mkM _ _ _ (⟨(⟨#[97, 98]⟩ : ByteArray), 2, 1, (⟨#[120]⟩ : ByteArray)⟩ : S31) )) (Reps.c4 (show Kd.M k31 _ _ _ (⟨(⟨#[97, 98]⟩ : ByteArray), 1, 2, (⟨#[]⟩ : ByteArray)⟩ : S31) [.string (⟨#[97, 98]⟩ : ByteArray), .int .u64 1, .int .i64 2, .string (⟨#[]⟩ : ByteArray)] from (k31_mkM _ _ _ (⟨(⟨#[97, 98]⟩ : ByteArray), 1, 2, (⟨#[]⟩ : ByteArray)⟩ : S31) )) (Reps.c4 (show Kd.M k31 _ _ _ (⟨(⟨#[98]⟩ : ByteArray), 1, 1, (⟨#[]⟩ : ByteArray)⟩ : S31) [.string (⟨#[98]⟩ : ByteArray), .int .u64 1, .int .i64 1, .string (⟨#[]⟩ : ByteArray)] from (k31_mkM _ _ _ (⟨(⟨#[98]⟩ : ByteArray), 1, 1, (⟨#[]⟩ : ByteArray)⟩ : S31) )) (Reps.none _ _))))); intro v153 w23 ho24 hb hg_ hnew_; clear hg_ hnew_; (first | rw [← Ny152.out] at ho24 | (simp only [Int.reduceToNat] at ho24; rw [← Ny152.out] at ho24)); have n0_ := Aside0.mk (Kd.R_lower ho24 (below_size (by repeat (first | (with_reducible first | exact HB.out | apply below_alloc | apply pw_below_drewN | apply below_drew1) | exact HB.out)))); have n1_ := Aside0.mk (below_step (by repeat (first | (with_reducible first | exact HB.out | apply below_alloc | apply pw_below_drewN | apply below_drew1) | exact HB.out)) hb); clear HB; have HO154 := n0_; have HB := n1_; clear n0_ n1_; clear hb ho24; obtain ⟨Ao25, co25, eo25⟩ := Kd.R_slice HO154.out; subst eo25) | ((with_reducible refine gate_callee (f := 12) rfl ?_); refine goesL_ (some 12) rfl rfl Try.func12 (by kernel_rfl) rfl #[.slice Ao25 y152.length co25, .int .i64 16] rfl (by (try simp only [List.map_toArray, List.map_cons, List.map_nil]); first | done | rfl | (simp only [List.length_drop, List.length_take]; rfl)) ?_; (with_reducible refine (block_Build.calls _ _ y152 16 t155 t156 _ ?side1 ?side2 A1.out).mono ?_); (case side1 => repeat (first | exact (Kd.R_reads' HO154.out).2.2 | (with_reducible refine Kd.C_alloc ?_ _) | (with_reducible refine Kd.C_drewN ?_ _) | (with_reducible refine Kd.C_drew ?_))); (case side2 => exact (Kd.R_reads' HO154.out).2.1); rintro e w26 ⟨rfl, hb⟩; refine ⟨_, rfl, ?_⟩; have n0_ := Aside0.mk (Kd.R_below (by (with_reducible repeat (first | apply Kd.R_alloc | apply Kd.R_drewN | apply Kd.R_drew)); exact HO154.out) hb); have n1_ := Aside0.mk (below_step (by repeat (first | (with_reducible first | exact HB.out | apply below_alloc | apply pw_below_drewN | apply below_drew1) | exact HB.out)) hb); clear HO154; clear HB; have HO154 := n0_; have HB := n1_; clear n0_ n1_; (try clear hb); (try clear hb2); (try clear hk); (try clear hi)) | ((with_reducible refine gate_callee (f := 19) rfl ?_); refine goesL_ (some 16) rfl rfl Try.func19 (by kernel_rfl) rfl #[.string (⟨#[0, 0, 0, 0, 0, 0, 0, 0]⟩ : ByteArray)] rfl (by (try simp only [List.map_toArray, List.map_cons, List.map_nil]); first | done | rfl | (simp only [List.length_drop, List.length_take]; rfl)) ?_; (with_reducible refine (block_Rows.calls k (⟨#[0, 0, 0, 0, 0, 0, 0, 0]⟩ : ByteArray) t157 t158 _ A2.out).mono ?_); rintro e w27 ⟨v159, rfl, ho0, hb⟩; refine ⟨_, rfl, ?_⟩; have n0_ := Aside0.mk (Kd.R_elder' (by (with_reducible repeat (first | apply Kd.R_alloc | apply Kd.R_drewN | apply Kd.R_drew)); exact HO154.out) (Kd.R_base ho0) hb); have n1_ := Aside0.mk (Kd.R_lower (Kd.R_new' ho0 (Kd.R_lt (by (with_reducible repeat (first | apply Kd.R_alloc | apply Kd.R_drewN | apply Kd.R_drew)); exact HO154.out))) (below_size (by repeat (first | (with_reducible first | exact HB.out | apply below_alloc | apply pw_below_drewN | apply below_drew1) | exact HB.out)))); have n2_ := Aside0.mk (below_step (by repeat (first | (with_reducible first | exact HB.out | apply below_alloc | apply pw_below_drewN | apply below_drew1) | exact HB.out)) hb); clear HO154; clear HB; have HO154 := n0_; have HO160 := n1_; have HB := n2_; clear n0_ n1_ n2_; (try clear hb); (try clear hb2); (try clear hk); (try clear hi); (try clear ho0)))
    go_ret
    exact ⟨by first | rfl | (simp [errW_none, errW_some] <;> rfl) | (simp [*, errW_none, errW_some] <;> rfl), by repeat (first | (with_reducible first | exact HB.out | apply below_alloc | apply pw_below_drewN | apply below_drew1) | exact HB.out)⟩

end Go.Proofs.Ytjgbcaemcohmpaa.Print
-- RParts
namespace Go.Proofs.Ytjgbcaemcohmpaa.Block
open Go.RowKit Aid Txt Print Go.Proofs.YtjgbcaemcohmpaaW.PrintWords
theorem i64_or_nat (a b : Nat) (ha : a < 9223372036854775808) (hb : b < 9223372036854775808) : Go.bits .or .i64 (a : Int) (b : Int) = ((a ||| b : Nat) : Int) := by
  have hx : a ||| b < 2 ^ 63 := Nat.or_lt_two_pow (by omega) (by omega)
  show IntKind.i64.wrap ((BitVec.ofInt 64 (a : Int) ||| BitVec.ofInt 64 (b : Int)).toNat : Int) = _
  rw [BitVec.toNat_or, ofInt_u64 a (by omega), ofInt_u64 b (by omega)]
  exact IntWalk.i64_in _ (by omega)
theorem whole_eq (s : ByteArray) (h : 4 ≤ s.size) : block_whole.f s = some ((PBlock.unfour (L s) : Nat) : Int) := by
  unfold block_whole.f
  rw [if_pos (by omega), if_pos (by omega), if_pos (by omega), if_pos (by omega)]
  have b0 := bt_getD s 0
  have b1 := bt_getD s 1
  have b2 := bt_getD s 2
  have b3 := bt_getD s 3
  rw [b0, b1, b2, b3]
  unfold PBlock.unfour
  rw [show (0 : Int).toNat = 0 from rfl, show (1 : Int).toNat = 1 from rfl, show (2 : Int).toNat = 2 from rfl, show (3 : Int).toNat = 3 from rfl]
  have l0 : ((L s).getD 0 0).toNat < 256 := UInt8.toNat_lt _
  have l1 : ((L s).getD 1 0).toNat < 256 := UInt8.toNat_lt _
  have l2 : ((L s).getD 2 0).toNat < 256 := UInt8.toNat_lt _
  have l3 : ((L s).getD 3 0).toNat < 256 := UInt8.toNat_lt _
  generalize ((L s).getD 0 0).toNat = a at *
  generalize ((L s).getD 1 0).toNat = b at *
  generalize ((L s).getD 2 0).toNat = c at *
  generalize ((L s).getD 3 0).toNat = d at *
  clear b0 b1 b2 b3
  have w0 : wrap64 (a : Int) = (a : Int) := wrap_id (by omega) (by omega)
  have w1 : wrap64 (wrap64 (b : Int) * 256) = ((b * 256 : Nat) : Int) := by rw [wrap_id (x := (b : Int)) (by omega) (by omega), wrap_id (by omega) (by omega)]; omega
  have w2 : wrap64 (wrap64 (c : Int) * 65536) = ((c * 65536 : Nat) : Int) := by rw [wrap_id (x := (c : Int)) (by omega) (by omega), wrap_id (by omega) (by omega)]; omega
  have w3 : wrap64 (wrap64 (d : Int) * 16777216) = ((d * 16777216 : Nat) : Int) := by rw [wrap_id (x := (d : Int)) (by omega) (by omega), wrap_id (by omega) (by omega)]; omega
  rw [w0, w1, w2, w3, i64_or_nat a (b * 256) (by omega) (by omega)]
  rw [Nat.or_comm a, nat_join 8 (b * 256) a (by omega) (by omega)]
  rw [i64_or_nat _ (c * 65536) (by omega) (by omega), Nat.or_comm (b * 256 + a), nat_join 16 (c * 65536) (b * 256 + a) (by omega) (by omega)]
  rw [i64_or_nat _ (d * 16777216) (by omega) (by omega), Nat.or_comm (c * 65536 + (b * 256 + a)), nat_join 24 (d * 16777216) _ (by omega) (by omega)]
  congr 2
  omega
theorem whole_at (s : ByteArray) (i : Nat) (h : i + 4 ≤ s.size) : block_whole.f (s.extract i s.size) = some ((PBlock.unfour ((L s).drop i) : Nat) : Int) := by
  rw [whole_eq _ (by rw [ByteArray.size_extract]; omega), L_drop]
/-- the loop that reads where restarts lie -/
theorem parts_loop (s : ByteArray) (hs : s.size ≤ 65536) (n at_ : Nat) (h : at_ + 4 * n + 8 = s.size) (d : Nat) : ∀ (i : Nat) (xs : List Int), i + d = n → xs = (List.range i).map (fun j => ((PBlock.unfour ((L s).drop (at_ + 4 * j)) : Nat) : Int)) →
    Ev (fun k => block_parts.l0 k s xs (at_ : Int) (n : Int) (i : Int)) (B ((L s).take at_), (List.range n).map (fun j => ((PBlock.unfour ((L s).drop (at_ + 4 * j)) : Nat) : Int)), true) := by
  induction d with
  | zero =>
    intro i xs hi hx
    obtain rfl : i = n := by omega
    subst hx
    refine Ev.step (f := fun _ => some (B ((L s).take at_), (List.range i).map (fun j => ((PBlock.unfour ((L s).drop (at_ + 4 * j)) : Nat) : Int)), true)) (fun k => ?_) (Ev.now _)
    simp only [block_parts.l0]
    rw [if_neg (by omega), if_pos (by omega), if_pos (by omega), Int.toNat_natCast, ← L_take, B_L]
  | succ d ih =>
    intro i xs hi hx
    have hlen : xs.length = i := by rw [hx, List.length_map, List.length_range]
    have e1 : wrap64 (4 * (i : Int)) = ((4 * i : Nat) : Int) := by rw [wrap_id (by omega) (by omega)]; omega
    have e2 : wrap64 ((at_ : Int) + wrap64 (4 * (i : Int))) = ((at_ + 4 * i : Nat) : Int) := by rw [e1, wrap_id (by omega) (by omega)]; omega
    have e3 : wrap64 ((i : Int) + 1) = ((i + 1 : Nat) : Int) := by rw [wrap_id (by omega) (by omega)]; omega
    refine Ev.step (fun k => ?_) (ih (i + 1) (xs ++ [((PBlock.unfour ((L s).drop (at_ + 4 * i)) : Nat) : Int)]) (by omega) (by rw [hx, List.range_succ, List.map_append]; rfl))
    simp only [block_parts.l0]
    rw [if_pos (by omega), e2, if_pos (by omega), if_pos (by omega), Int.toNat_natCast, whole_at s _ (by omega), Option.bind_some, if_pos (by omega), e3]
/-- bytes that may be a block's by their size -/
def Sized (l : List UInt8) : Prop := ¬ (l.length < 8 ∨ 65536 < l.length ∨ (l.length - 8) / 4 < PBlock.unfour (l.drop (l.length - 8)))
theorem parts_bad (s : ByteArray) (hs : s.size ≤ 4611686018427387904) (h : ¬ Sized (L s)) : Ev (fun k => block_parts.f k s) ((⟨#[]⟩ : ByteArray), ([] : List Int), false) := by
  unfold Sized at h
  rw [L_length] at h
  unfold block_parts.f
  by_cases h1 : s.size < 8
  · refine Ev.congr (f := fun k => block_parts.j0 k s ([] : List Int) true) (fun k => by rw [if_pos (by omega)]) ?_
    refine Ev.step (f := fun _ => some ((⟨#[]⟩ : ByteArray), ([] : List Int), false)) (fun k => ?_) (Ev.now _)
    simp only [block_parts.j0, if_true]
  · by_cases h2 : 65536 < s.size
    · refine Ev.congr (f := fun k => block_parts.j0 k s ([] : List Int) true) (fun k => by rw [if_neg (by omega), decide_eq_true (by omega)]) ?_
      refine Ev.step (f := fun _ => some ((⟨#[]⟩ : ByteArray), ([] : List Int), false)) (fun k => ?_) (Ev.now _)
      simp only [block_parts.j0, if_true]
    · have h3 : (s.size - 8) / 4 < PBlock.unfour ((L s).drop (s.size - 8)) := Classical.byContradiction fun g => h (by omega)
      have e1 : wrap64 ((s.size : Int) - 8) = ((s.size - 8 : Nat) : Int) := by rw [wrap_id (by omega) (by omega)]; omega
      have e2 : wrap64 (Int.tdiv ((s.size - 8 : Nat) : Int) 4) = (((s.size - 8) / 4 : Nat) : Int) := by
        rw [Int.tdiv_eq_ediv_of_nonneg (by omega), wrap_id (by omega) (by omega)]; omega
      refine Ev.congr (f := fun k => block_parts.j0 k s ([] : List Int) false) (fun k => by rw [if_neg (by omega), decide_eq_false (by omega)]) ?_
      refine Ev.step (f := fun _ => some ((⟨#[]⟩ : ByteArray), ([] : List Int), false)) (fun k => ?_) (Ev.now _)
      simp only [block_parts.j0]
      rw [if_neg (by simp), e1, e2, if_pos (by omega), if_pos (by omega), Int.toNat_natCast, whole_at s _ (by omega), Option.bind_some, if_pos (by omega)]
theorem parts_good (s : ByteArray) (h : Sized (L s)) : Ev (fun k => block_parts.f k s) (B (PBlock.body (L s)), (PBlock.restarts (L s)).map (fun n : Nat => (n : Int)), true) := by
  unfold Sized at h
  rw [L_length] at h
  have h1 : 8 ≤ s.size := Classical.byContradiction fun g => h (.inl (by omega))
  have h2 : s.size ≤ 65536 := Classical.byContradiction fun g => h (.inr (.inl (by omega)))
  have h3 : ¬ (s.size - 8) / 4 < PBlock.unfour ((L s).drop (s.size - 8)) := fun g => h (.inr (.inr g))
  unfold block_parts.f PBlock.body PBlock.restarts
  rw [L_length]
  have e1 : wrap64 ((s.size : Int) - 8) = ((s.size - 8 : Nat) : Int) := by rw [wrap_id (by omega) (by omega)]; omega
  have e2 : wrap64 (Int.tdiv ((s.size - 8 : Nat) : Int) 4) = (((s.size - 8) / 4 : Nat) : Int) := by
    rw [Int.tdiv_eq_ediv_of_nonneg (by omega), wrap_id (by omega) (by omega)]; omega
  have hw := whole_at s (s.size - 8) (by omega)
  generalize PBlock.unfour ((L s).drop (s.size - 8)) = n at *
  have e3 : wrap64 (((s.size - 8 : Nat) : Int) - wrap64 (4 * (n : Int))) = ((s.size - 8 - 4 * n : Nat) : Int) := by
    rw [wrap_id (x := 4 * (n : Int)) (by omega) (by omega), wrap_id (by omega) (by omega)]; omega
  refine Ev.congr (f := fun k => block_parts.j0 k s ([] : List Int) false) (fun k => by rw [if_neg (by omega), decide_eq_false (by omega)]) ?_
  refine Ev.step (fun k => ?_) (f := fun k => block_parts.l0 k s ([] : List Int) ((s.size - 8 - 4 * n : Nat) : Int) (n : Int) ((0 : Nat) : Int)) ?_
  · simp only [block_parts.j0]
    rw [if_neg (by simp), e1, e2, if_pos (by omega), if_pos (by omega), Int.toNat_natCast, hw, Option.bind_some, if_neg (by omega), e3]
    rfl
  · have := parts_loop s h2 n (s.size - 8 - 4 * n) (by omega) n 0 [] (by omega) rfl
    rw [List.map_map]
    exact this
theorem rowS_rowB (r : PBlock.Row) : rowS (rowB r) = r := by
  cases r; simp [rowS, rowB, L_B]
/-- what is handed back of rows that were read, behind others -/
def tailOf (s : List UInt8) (xs : List S31) : Option (List PBlock.Row) → List S31 × Int
  | none => ([], 7)
  | some l => if PBlock.build (xs.map rowS ++ l) (PBlock.unfour (s.drop (s.length - 4)) : Int) = (s, 0) then (xs ++ l.map rowB, 0) else ([], 7)
theorem rows_end (s b : ByteArray) (h8 : 8 ≤ s.size) (hs : s.size ≤ 65536) (xs : List S31) (last : ByteArray) (hx : ∀ x ∈ xs, 0 ≤ x.f1 ∧ x.f1 < 18446744073709551616) (hn : xs.length ≤ 1024) (k : Nat) :
    block_Rows.l0 (k + 1) s b xs last (b.size : Int) = some (tailOf (L s) xs (some [])) := by
  have e1 : wrap64 ((s.size : Int) - 4) = ((s.size - 4 : Nat) : Int) := by rw [wrap_id (by omega) (by omega)]; omega
  have hu := PBlock.unfour_lt ((L s).drop (s.size - 4))
  have hb := block_Build.eq xs ((PBlock.unfour ((L s).drop (s.size - 4)) : Nat) : Int) ⟨hx, by omega, by omega, by omega⟩
  have hw := whole_at s (s.size - 4) (by omega)
  unfold tailOf
  rw [L_length]
  simp only [block_Rows.l0]
  rw [if_neg (by omega), e1, if_pos (by omega), if_pos (by omega), Int.toNat_natCast, hw, Option.bind_some, hb, Option.bind_some, List.append_nil, List.map_nil, List.append_nil]
  dsimp only
  generalize PBlock.build (xs.map rowS) ((PBlock.unfour ((L s).drop (s.size - 4)) : Nat) : Int) = r
  obtain ⟨y, e⟩ := r
  dsimp only
  by_cases he : e = 0
  · subst he
    rw [if_pos (show ((0 : Nat) : Int) = 0 from rfl)]
    by_cases hy : y = L s
    · subst hy
      rw [if_pos (by rw [B_L]), if_pos rfl]
    · rw [if_neg (fun h => hy (by rw [L_toList, L_toList, L_B] at h; exact h)), if_neg (by simp [hy])]
  · rw [if_neg (by omega), if_neg (by simp [he])]
theorem rows_loop (s b : ByteArray) (h8 : 8 ≤ s.size) (hs : s.size ≤ 65536) (hb : b.size ≤ 65536) (d : Nat) : ∀ (at_ fuel : Nat) (xs : List S31) (last : ByteArray), b.size - at_ ≤ d → at_ ≤ b.size → b.size - at_ < fuel → (∀ x ∈ xs, 0 ≤ x.f1 ∧ x.f1 < 18446744073709551616) →
    xs.length ≤ 1024 → last.size ≤ 520 * xs.length → Ev (fun k => block_Rows.l0 k s b xs last (at_ : Int)) (tailOf (L s) xs (PBlock.decode fuel ((L b).drop at_) (L last) xs.length)) := by
  induction d with
  | zero =>
    intro at_ fuel xs last hd ha hf hx hn hl
    obtain ⟨fuel, rfl⟩ : ∃ m, fuel = m + 1 := ⟨fuel - 1, by omega⟩
    obtain rfl : at_ = b.size := by omega
    rw [show (L b).drop b.size = [] from List.drop_eq_nil_of_le (by rw [L_length]; omega), PBlock.decode_end]
    exact Ev.step (fun k => rows_end s b h8 hs xs last hx hn k) (Ev.now _)
  | succ d ih =>
    intro at_ fuel xs last hd ha hf hx hn hl
    obtain ⟨fuel, rfl⟩ : ∃ m, fuel = m + 1 := ⟨fuel - 1, by omega⟩
    by_cases h0 : at_ = b.size
    · subst h0
      rw [show (L b).drop b.size = [] from List.drop_eq_nil_of_le (by rw [L_length]; omega), PBlock.decode_end]
      exact Ev.step (fun k => rows_end s b h8 hs xs last hx hn k) (Ev.now _)
    have hlt : at_ < b.size := by omega
    have hne : (L b).drop at_ ≠ [] := by
      intro e
      have := congrArg List.length e
      rw [List.length_drop, L_length, List.length_nil] at this; omega
    have hr := block_read.eq (b.extract at_ b.size) last ⟨by rw [ByteArray.size_extract]; omega, by omega⟩
    rw [L_drop] at hr
    have hgo : ∀ (R : List S31 × Int) (f : Nat → Option (List S31 × Int)), (∀ k, (if (readN (PBlock.read ((L b).drop at_) (L last)) : Int) = 0 then (some (([] : List S31), (7 : Int))) else (if (xs.length : Int) = 1024 then (some (([] : List S31), 7)) else (if xs.length < 2932031007402 then (block_Rows.l0 k s b (xs ++ [readR (PBlock.read ((L b).drop at_) (L last))]) (readR (PBlock.read ((L b).drop at_) (L last))).f0 (wrap64 ((at_ : Int) + (readN (PBlock.read ((L b).drop at_) (L last)) : Int)))) else none))) = f k) → Ev f R → Ev (fun k => block_Rows.l0 k s b xs last (at_ : Int)) R := by
      intro R f hk hE
      refine Ev.step (fun k => ?_) hE
      simp only [block_Rows.l0]
      rw [if_pos (by omega), if_pos (by omega), if_pos (by omega), Int.toNat_natCast, hr, Option.bind_some]
      exact hk k
    cases hrd : PBlock.read ((L b).drop at_) (L last) with
    | none =>
      rw [PBlock.decode_bad hne hrd]
      refine hgo _ (fun _ => some ([], 7)) (fun k => ?_) (Ev.now _)
      rw [hrd]
      rw [if_pos (show ((readN none : Nat) : Int) = 0 from rfl)]
    | some x =>
      obtain ⟨r, n⟩ := x
      have hbd := PBlock.read_bounds hrd
      rw [List.length_drop, L_length, L_length] at hbd
      by_cases h1 : xs.length = 1024
      · rw [PBlock.decode_many hne hrd h1]
        refine hgo _ (fun _ => some ([], 7)) (fun k => ?_) (Ev.now _)
        rw [hrd]
        rw [if_neg (show ¬ (((readN (some (r, n)) : Nat) : Int) = 0) from by show ¬ ((n : Int) = 0); omega), if_pos (by omega)]
      · rw [PBlock.decode_go hne hrd h1, List.drop_drop]
        have hI := ih (at_ + n) fuel (xs ++ [rowB r]) (B r.key) (by omega) (by omega) (by omega) ?_ (by rw [List.length_append, List.length_singleton]; omega) (by rw [size_B, List.length_append, List.length_singleton]; omega)
        · have ew : wrap64 ((at_ : Int) + (n : Int)) = ((at_ + n : Nat) : Int) := by rw [wrap_id (by omega) (by omega)]; omega
          refine hgo _ (fun k => block_Rows.l0 k s b (xs ++ [rowB r]) (B r.key) ((at_ + n : Nat) : Int)) (fun k => ?_) ?_
          · rw [hrd]
            show (if (n : Int) = 0 then _ else (if (xs.length : Int) = 1024 then _ else (if xs.length < _ then block_Rows.l0 k s b (xs ++ [rowB r]) (B r.key) (wrap64 ((at_ : Int) + (n : Int))) else none))) = _
            rw [if_neg (by omega), if_neg (by omega), if_pos (by omega), ew]
          · rw [L_B, List.length_append, List.length_singleton] at hI
            cases hdc : PBlock.decode fuel ((L b).drop (at_ + n)) r.key (xs.length + 1) with
            | none => rw [hdc] at hI; exact hI
            | some l =>
              rw [hdc] at hI
              simp only [tailOf, Option.map_some] at hI ⊢
              rw [List.map_append, List.map_cons, List.map_nil, rowS_rowB, List.append_assoc, List.append_assoc] at hI
              exact hI
        · intro x hx2
          rcases List.mem_append.1 hx2 with h | h
          · exact hx x h
          · rw [List.mem_singleton.1 h]
            exact ⟨by show (0 : Int) ≤ (r.seq : Int); omega, by show (r.seq : Int) < _; omega⟩
/-- Rows, by what it computes -/
def rowsR (s : List UInt8) : List S31 × Int := ((PBlock.rows s).1.map rowB, ((PBlock.rows s).2 : Int))
theorem rows_ev (s : ByteArray) (hs : s.size ≤ 4611686018427387904) : Ev (fun k => block_Rows.f k s) (rowsR (L s)) := by
  unfold block_Rows.f rowsR
  by_cases h : Sized (L s)
  · refine Ev.bind (parts_good s h) ?_
    have h2 := h
    unfold Sized at h2
    rw [L_length] at h2
    have h8 : 8 ≤ s.size := Classical.byContradiction fun g => h2 (.inl (by omega))
    have h65 : s.size ≤ 65536 := Classical.byContradiction fun g => h2 (.inr (.inl (by omega)))
    have hbl : (PBlock.body (L s)).length ≤ s.size := by unfold PBlock.body; rw [List.length_take, L_length]; omega
    have hl := rows_loop s (B (PBlock.body (L s))) h8 h65 (by rw [size_B]; omega) _ 0 (s.size + 1) [] ⟨#[]⟩ (Nat.le_refl _) (by omega) (by rw [size_B]; omega) (by simp) (by simp) (Nat.le_refl 0)
    rw [List.drop_zero, L_B] at hl
    refine Ev.congr (f := fun k => block_Rows.l0 k s (B (PBlock.body (L s))) [] ⟨#[]⟩ ((0 : Nat) : Int)) (fun k => by rw [if_pos rfl]; rfl) ?_
    cases hd : PBlock.decode (s.size + 1) (PBlock.body (L s)) [] 0 with
    | none =>
      have hl2 : Ev (fun k => block_Rows.l0 k s (B (PBlock.body (L s))) [] ⟨#[]⟩ ((0 : Nat) : Int)) (tailOf (L s) [] (PBlock.decode (s.size + 1) (PBlock.body (L s)) [] 0)) := hl
      rw [hd] at hl2
      rw [PBlock.rows_none h (by rw [L_length]; exact hd)]
      exact hl2
    | some l =>
      have hl2 : Ev (fun k => block_Rows.l0 k s (B (PBlock.body (L s))) [] ⟨#[]⟩ ((0 : Nat) : Int)) (tailOf (L s) [] (PBlock.decode (s.size + 1) (PBlock.body (L s)) [] 0)) := hl
      rw [hd] at hl2
      unfold tailOf at hl2
      simp only [List.map_nil, List.nil_append] at hl2
      rw [PBlock.rows_some h (by rw [L_length]; exact hd)]
      by_cases hb : PBlock.build l (PBlock.unfour ((L s).drop ((L s).length - 4)) : Int) = (L s, 0)
      · rw [if_pos hb] at hl2 ⊢
        exact hl2
      · rw [if_neg hb] at hl2 ⊢
        exact hl2
  · have h2 : (L s).length < 8 ∨ 65536 < (L s).length ∨ ((L s).length - 8) / 4 < PBlock.unfour ((L s).drop ((L s).length - 8)) := Classical.byContradiction fun g => h g
    refine Ev.bind (parts_bad s hs h) ?_
    rw [PBlock.rows_bad h2]
    refine Ev.congr (f := fun _ => some ([], 7)) (fun k => by rw [if_neg (by simp)]) (Ev.now _)
end Go.Proofs.Ytjgbcaemcohmpaa.Block
-- Awake11
namespace Go.Proofs.Ytjgbcaemcohmpaa.Block
open Go.RowKit Aid Txt Print Go.Proofs.YtjgbcaemcohmpaaW.PrintWords
theorem awake_rows : PBlock.build [⟨[97, 98], 2, 1, [120]⟩, ⟨[97, 98], 1, 2, []⟩, ⟨[98], 1, 1, []⟩] 16 = ([0, 2, 97, 98, 2, 1, 1, 120, 2, 0, 1, 2, 0, 1, 98, 1, 1, 0, 0, 0, 0, 0, 1, 0, 0, 0, 16, 0, 0, 0], 0) := by
  simp [PBlock.build, PBlock.order, PBlock.ahead, PCode.lt, Op.bytesLess, PBlock.check, PBlock.whole, PBlock.enc, PBlock.ends, PBlock.rowEnc, PBlock.common, PBlock.fours, PBlock.four, PCode.putField, PCode.putUint_small]
theorem order_awake : PBlock.order [⟨[97, 98], 2, 1, [120]⟩, ⟨[97, 98], 1, 2, []⟩, ⟨[98], 1, 1, []⟩] = true := by
  simp [PBlock.order, PBlock.ahead, PCode.lt, Op.bytesLess]
theorem rows_zero : PBlock.rows [0, 0, 0, 0, 0, 0, 0, 0] = ([], 7) := by
  simp [PBlock.rows, PBlock.unfour, PBlock.decode, PBlock.body, PBlock.build]
theorem awake11 : Ev (fun k => freshetlaw11_awake.f k) true := by
  unfold freshetlaw11_awake.f
  refine Ev.bind (Ev.now _) ?_
  obtain ⟨ys, hys⟩ : ∃ ys : List S31, ys = [(⟨(⟨#[97, 98]⟩ : ByteArray), 2, 1, (⟨#[120]⟩ : ByteArray)⟩ : S31), (⟨(⟨#[97, 98]⟩ : ByteArray), 1, 2, (⟨#[]⟩ : ByteArray)⟩ : S31), (⟨(⟨#[98]⟩ : ByteArray), 1, 1, (⟨#[]⟩ : ByteArray)⟩ : S31)] := ⟨_, rfl⟩
  have hm : ys.map rowS = [⟨[97, 98], 2, 1, [120]⟩, ⟨[97, 98], 1, 2, []⟩, ⟨[98], 1, 1, []⟩] := by rw [hys]; rfl
  have hf : ∀ x ∈ ys, 0 ≤ x.f1 ∧ x.f1 < 18446744073709551616 := by rw [hys]; simp
  have hl : ys.length = 3 := by rw [hys]; rfl
  have hb := block_Build.eq ys 16 ⟨hf, by omega, by omega, by omega⟩
  rw [hm, awake_rows] at hb
  have hr := rows_ev (B [0, 0, 0, 0, 0, 0, 0, 0]) (by rw [size_B]; decide)
  unfold rowsR at hr
  rw [L_B, rows_zero] at hr
  have hO := order_eq ys (fun x hx => ⟨(hf x hx).1, (hf x hx).2⟩) (by omega)
  rw [hm, order_awake] at hO
  rw [← hys]
  refine Ev.congr (f := fun k => _) (fun k => by rw [hb, Option.bind_some]) ?_
  refine Ev.bind hr ?_
  refine Ev.congr (fun k => if_pos (by rw [L_toList, L_B])) ?_
  refine Ev.congr (fun k => if_pos rfl) ?_
  refine Ev.congr (fun k => if_pos rfl) ?_
  exact Ev.bind hO (Ev.now _)
end Go.Proofs.Ytjgbcaemcohmpaa.Block
-- BlockL
namespace Go.Proofs.Ytjgbcaemcohmpaa.Block
open Go.RowKit Aid Txt Print Go.Proofs.YtjgbcaemcohmpaaW.PrintWords
theorem awake_any (w : World) : Calls Try.prog 10 #[] w fun e w' => e = .returned (.bool true) ∧ Below w.heap.size w w' := by
  obtain ⟨k, hk⟩ := awake11.rounds
  exact freshetlaw11_awake.calls k true w hk
theorem same_ev (l : List S31) (hl : l.length ≤ 9223372036854775806) (d : Nat) : ∀ i : Nat, l.length - i ≤ d → Ev (fun k => freshetref06_SameRows.l0 k l l (i : Int)) true := by
  induction d with
  | zero =>
    intro i hi
    refine Ev.step (f := fun _ => some true) (fun k => ?_) (Ev.now _)
    simp only [freshetref06_SameRows.l0]
    rw [if_neg (by omega)]
  | succ d ih =>
    intro i hi
    by_cases h : i < l.length
    · refine Ev.step (fun k => ?_) (ih (i + 1) (by omega))
      simp only [freshetref06_SameRows.l0]
      rw [if_pos (by omega), if_pos (by omega), if_pos (by omega), if_neg (by simp), wrap_id (by omega) (by omega)]
      rfl
    · refine Ev.step (f := fun _ => some true) (fun k => ?_) (Ev.now _)
      simp only [freshetref06_SameRows.l0]
      rw [if_neg (by omega)]
theorem same_any (l : List S31) (hl : l.length ≤ 9223372036854775806) (A0 : Option Addr) (c0 : Nat) (A1 : Option Addr) (c1 : Nat) (w : World) (hr0 : Kd.C k31 w A0 l.length l) (hc0 : l.length ≤ c0) (hr1 : Kd.C k31 w A1 l.length l) (hc1 : l.length ≤ c1) :
    Calls Try.prog 21 #[.slice A0 l.length c0, .slice A1 l.length c1] w fun e w' => e = .returned (.bool true) ∧ Drawn0 w w' := by
  obtain ⟨k, hk⟩ := (same_ev l hl _ 0 (Nat.le_refl _)).rounds
  refine freshetref06_SameRows.calls k A0 c0 l A1 c1 l true w hr0 hc0 hr1 hc1 ?_
  unfold freshetref06_SameRows.f
  rw [if_pos rfl]
  exact hk
end Go.Proofs.Ytjgbcaemcohmpaa.Block
-- BlockOwn
namespace Go.Proofs.Ytjgbcaemcohmpaa.Block
open Go.RowKit Aid Txt Print Go.Proofs.YtjgbcaemcohmpaaW.PrintWords Go.Proofs.YtjgbcaemcohmpaaW.PrintLast Go.Proofs.YtjgbcaemcohmpaaW.PrintMore
set_option linter.unusedVariables false
set_option linter.unusedSimpArgs false
theorem drawn_below_ {w w' : World} (h : Drawn0 w w') : Below w.heap.size w w' := by
  obtain ⟨n, rfl⟩ := h; exact below_drewN (Below.refl _ _) n
/-- the mark -/
def m77 : S31 := ⟨(⟨#[]⟩ : ByteArray), 0, 77, (⟨#[]⟩ : ByteArray)⟩
def OwnPost (l : List S31) (w : World) (e : Ending) (w' : World) : Prop :=
  ∃ (A : Option Addr) (c : Nat), e = .returned (.slice A l.length c) ∧ l.length + 1 ≤ c ∧ Kd.C k31 w' A (l.length + 1) (l ++ [m77]) ∧ Below w.heap.size w w'
set_option maxHeartbeats 8000000 in
set_option maxRecDepth 100000 in
theorem own_any (l : List S31) (hl : l.length ≤ 1000000) (A0 : Option Addr) (c0 : Nat) (w : World) (hr0 : Kd.C k31 w A0 l.length l) (hc0 : l.length ≤ c0) :
    Calls Try.prog 11 #[.slice A0 l.length c0] w (OwnPost l w) := by
  have hu31 := Try.underlying31
  have HR0 := Aside0.mk hr0
  have HC0 := Aside0.mk hc0
  clear hr0 hc0
  have HB := Aside0.mk (Below.refl w.heap.size w)
  obtain ⟨x0, hx0⟩ : ∃ y_ : List S31, y_ = ([] : List S31) := ⟨_, rfl⟩
  obtain ⟨x1, hx1⟩ : ∃ y_ : List S31, y_ = (x0 ++ l) := ⟨_, rfl⟩
  obtain ⟨x2, hx2⟩ : ∃ y_ : List S31, y_ = (x1 ++ [m77]) := ⟨_, rfl⟩
  have z0 : Aside0 (x0.length = 0) := ⟨by rw [hx0]; rfl⟩
  have z1 : Aside0 (x1.length = l.length) := ⟨by rw [hx1, hx0]; rfl⟩
  have z2 : Aside0 (x2 = l ++ [m77]) := ⟨by rw [hx2, hx1, hx0]; rfl⟩
  have Nx0 := Aside0.mk hx0
  have Nx1 := Aside0.mk hx1
  have Nx2 := Aside0.mk hx2
  clear hx0 hx1 hx2
  go_enter Try.func11, Try.ntmps11
  go_wp2_with (first | ((with_reducible refine gate_dst (N := 4) rfl ?_); refine Kd.R_lit k31 _ 31 ?hg (N := 4) ?hd (xs := ([] : List S31)) (inner := []) (ok := fun _ => True) (okp := fun _ => True) ?hr ?hp (fun _ hk => hk) trivial (Below.refl _ _) (Nat.le_refl _) (by simp) ?_; (case hd => rfl); (case hg => rfl); (case hr => first | (go_simp; done) | (go_simp; rfl)); (case hp => exact (Reps.none _ _)); intro v163 w6 ho7 hb hg_ hnew_; clear hg_ hnew_; rw [← Nx0.out] at ho7; have HO164 := Aside0.mk (Kd.R_lower ho7 (below_size HB.out)); have n1_ := Aside0.mk (below_step HB.out hb); clear HB; have HB := n1_; clear n1_ hb ho7) | ((with_reducible refine gate_builtin (b := .append) (xs := #[.tmp 4, .tmp 5]) rfl ?_); at_builtin; refine Kd.R_append_rows k31 (w0 := w) w.heap.size rfl (.tmp 4) (.tmp 5) 22 31 (.agg #[(.string ⟨#[]⟩), (.int .u64 0), (.int .i64 0), (.string ⟨#[]⟩)]) 48 rfl Try.underlying22 info31 rfl (by decide) (by omega) v163 x0 l _ _ _ (fun _ => True) (fun _ => False) rfl rfl HO164.out (Kd.C_below HR0.out HB.out) (fun _ _ h => h) (fun _ h => h.elim) (fun _ _ => trivial) HB.out (below_size HB.out) (by have := z0.out; omega) ?_; intro v166 w8 ho hb hg hat; rw [← Nx1.out] at ho; clear HB HO164; have HB := Aside0.mk hb; have HO167 := Aside0.mk ho; clear ho hb hg hat) | ((with_reducible refine gate_builtin (b := .append) (xs := #[.tmp 7, .tmp 9]) rfl ?_); at_builtin; refine Kd.R_append k31 (w0 := w) w.heap.size rfl (.tmp 7) (.tmp 9) 22 31 (.agg #[(.string ⟨#[]⟩), (.int .u64 0), (.int .i64 0), (.string ⟨#[]⟩)]) 48 rfl Try.underlying22 info31 rfl (by decide) (by omega) v166 x1 m77 [.string (⟨#[]⟩ : ByteArray), .int .u64 0, .int .i64 77, .string (⟨#[]⟩ : ByteArray)] (fun _ => True) (fun _ => False) rfl rfl ?aP (fun _ hk => hk.elim) ?aF ?aO ?aB ?aS ?aL ?_; (case aP => exact k31_mkM _ _ _ m77); (case aB => exact (by repeat (first | (with_reducible first | exact HB.out | apply below_alloc | apply pw_below_drewN | apply below_drew1) | exact HB.out))); (case aF => exact (fun _ _ => trivial)); (case aO => exact (by (with_reducible repeat (first | apply Kd.R_alloc | apply Kd.R_drewN | apply Kd.R_drew)); exact HO167.out)); (case aS => exact (below_size (by repeat (first | (with_reducible first | exact HB.out | apply below_alloc | apply pw_below_drewN | apply below_drew1) | exact HB.out)))); (case aL => have := z1.out; omega); intro v169 w9 ho hb hg hat; rw [← Nx2.out] at ho; clear HB HO167; have HB := Aside0.mk hb; obtain ⟨Ao, co, rfl, hco, hCo⟩ := Kd.R_reads ho; have hz2 : x2.length = l.length + 1 := (by rw [z2.out]; simp); have q11 : (l.length : Int) ≤ (x2.length : Int) := (by omega); have q0 : (0 : Int) ≤ (l.length : Int) := (by omega); obtain ⟨i011, hi011, _, hsz11, _⟩ := info_parts info31; have hcut11 := cut_to (P := Try.prog) 22 31 .i64 Try.underlying22 hi011 Ao x2.length co (l.length : Int) q0 q11 hco; rw [Int.toNat_natCast] at hcut11; have HCO := Aside0.mk hCo; have HCC := Aside0.mk hco; have HZ2 := Aside0.mk hz2; clear hi011 hsz11 ho hb hg hat hz2 hco hCo q11))
  go_ret
  have hn : x2.length = l.length + 1 := HZ2.out
  refine ⟨Ao, co, rfl, by rw [← hn]; exact HCC.out, ?_, HB.out⟩
  rw [← hn, ← z2.out]
  exact HCO.out
set_option maxHeartbeats 4000000 in
theorem kept_any (l : List S31) (hl : l.length ≤ 1000000) (A : Option Addr) (c : Nat) (A1 : Option Addr) (c1 : Nat) (w : World) (hC : Kd.C k31 w A (l.length + 1) (l ++ [m77])) (hc : l.length + 1 ≤ c) (hr : Kd.C k31 w A1 l.length l) (hc1 : l.length ≤ c1) :
    Calls Try.prog 18 #[.slice A l.length c, .slice A1 l.length c1] w fun e w' => e = .returned (.bool true) ∧ Below w.heap.size w w' := by
  have hlen : (l ++ [m77]).length = l.length + 1 := by simp
  have hT := Kd.C_take (m := l.length) (xs := l ++ [m77]) (by rw [hlen]; exact hC) (by rw [hlen]; omega)
  rw [List.take_left'  rfl] at hT
  have PS := same_any l (by omega) A c A1 c1 w hT (by omega) hr hc1
  have HC := Lib.hid hC
  clear hT hr hC hlen
  have t1 : (l.length : Int) + 1 ≤ (c : Int) := by omega
  have t2 : decide ((l.length : Int) + 1 ≤ (c : Int)) = true := decide_eq_true t1
  have t3 : (0 : Int) ≤ (l.length : Int) := by omega
  go_enter Try.func18, Try.ntmps18
  go_wp2_with fail
  refine PS.mono ?_
  rintro e w1 ⟨rfl, d1⟩
  have g1 := drawn_below_ d1
  clear d1 PS
  obtain ⟨ad, rfl, k0, k1, k2, k3⟩ := at_T31 (Kd.C_below HC.out g1) (l.length : Int) (by omega) (by omega)
  have hm : rd_T31 (l ++ [m77]) (l.length : Int) = m77 := by
    rw [at_S31 (l ++ [m77]) l.length (by simp)]; simp
  rw [hm, Int.toNat_natCast] at k2
  have k2' : w1.cell? ⟨(ad.add (l.length * 4)).block, (ad.add (l.length * 4)).off + 2, none⟩ = some (.int .i64 77) := k2
  clear k0 k1 k2 k3 hm
  go_wp2_with fail
  go_ret
  exact ⟨rfl, g1⟩
end Go.Proofs.Ytjgbcaemcohmpaa.Block
-- BlockBld
namespace Go.Proofs.Ytjgbcaemcohmpaa.Block
open Go.RowKit Aid Txt Print Go.Proofs.YtjgbcaemcohmpaaW.PrintWords
theorem refcheck_any (x : S31) (hx : Fit x) (w : World) : Calls Try.prog 15 #[.agg #[.string x.f0, .int .u64 x.f1, .int .i64 x.f2, .string x.f3]] w fun e w' => e = .returned (.int .i64 (PBlock.check (rowS x) : Nat)) ∧ Below w.heap.size w w' :=
  freshetref11_Check.calls 1 _ _ _ _ _ w (refcheck_eq x hx 0)
theorem reforder_any (l : List S31) (hl : ∀ x ∈ l, Fit x) (hs : l.length ≤ 9223372036854775806) (A0 : Option Addr) (c0 : Nat) (w : World) (hr0 : Kd.C k31 w A0 l.length l) (hc0 : l.length ≤ c0) : Calls Try.prog 17 #[.slice A0 l.length c0] w fun e w' => e = .returned (.bool (PBlock.order (l.map rowS))) ∧ Below w.heap.size w w' := by
  obtain ⟨k, hk⟩ := (reforder_eq l hl hs).rounds
  exact freshetref11_Order.calls k A0 c0 l _ w hr0 hc0 hk
theorem refbuild_any (l : List S31) (hl : ∀ x ∈ l, Fit x) (hs : l.length ≤ 9223372036854775806) (A0 : Option Addr) (c0 : Nat) (r : Int) (w : World) (hr0 : Kd.C k31 w A0 l.length l) (hc0 : l.length ≤ c0) :
    Calls Try.prog 13 #[.slice A0 l.length c0, .int .i64 r] w fun e w' => e = .returned (.tuple #[.string (B (PBlock.build (l.map rowS) r).1), .int .i64 ((PBlock.build (l.map rowS) r).2 : Nat)]) ∧ Below w.heap.size w w' := by
  obtain ⟨k, hk⟩ := (refbuild_ev l hl hs r).rounds
  exact freshetref11_Build.calls k A0 c0 l r _ _ w hr0 hc0 hk
set_option maxRecDepth 100000 in
set_option maxHeartbeats 8000000 in
theorem bld_walk (l : List S31) (hl : ∀ x ∈ l, Fit x) (A0 : Option Addr) (c0 : Nat) (r : Int) (r0 : -9223372036854775808 ≤ r) (r1 : r ≤ 9223372036854775807) (w : World) (hr0 : Kd.C k31 w A0 l.length l) (hc0 : l.length ≤ c0) :
    Calls Try.prog 3 #[.slice A0 l.length c0, .int .i64 r] w fun e w' => e = .returned (.bool true) ∧ Below w.heap.size w w' := by
  have PA := fun w' => awake_any w'
  have HR := Lib.hid hr0
  have HL := Lib.hid hl
  clear hr0 hl
  by_cases hbig : 1100 < l.length
  · have t1 : decide ((1100 : Int) < (l.length : Int)) = true := decide_eq_true (by omega)
    go_enter Try.func3, Try.ntmps3
    go_wp2_with fail
    refine (PA _).mono ?_
    rintro e w1 ⟨rfl, hb1⟩
    go_wp2_with fail
    go_ret
    exact ⟨rfl, hb1⟩
  have t1 : decide ((1100 : Int) < (l.length : Int)) = false := decide_eq_false (by omega)
  have PO := own_any l (by omega) A0 c0
  have P1 := fun A c hc => build_any l HL.out (by omega) A c r r0 r1 (hc0 := hc)
  have P2 := refbuild_any l HL.out (by omega) A0 c0 r
  have P3 := fun A c hc => order_any l HL.out (by omega) A c (hc0 := hc)
  have P4 := reforder_any l HL.out (by omega) A0 c0
  generalize PBlock.build (l.map rowS) r = bb at P1 P2
  generalize PBlock.order (l.map rowS) = oo at P3 P4
  obtain ⟨bs, be⟩ := bb
  dsimp only at P1 P2
  have HP1 := Lib.hid P1
  have HP2 := Lib.hid P2
  have HP3 := Lib.hid P3
  have HP4 := Lib.hid P4
  clear P1 P2 P3 P4
  go_enter Try.func3, Try.ntmps3
  go_wp2_with fail
  refine (PO _ HR.out hc0).mono ?_
  rintro e w1 ⟨A, c, rfl, hc, hC, g1⟩
  have hlen : (l ++ [m77]).length = l.length + 1 := by simp
  have hT := Kd.C_take (m := l.length) (xs := l ++ [m77]) (by rw [hlen]; exact hC) (by rw [hlen]; omega)
  rw [List.take_left' rfl] at hT
  have HC := Lib.hid hC
  have HT := Lib.hid hT
  clear hC hT hlen PO
  go_wp2_with fail
  refine (HP1.out A c (by omega) _ HT.out).mono ?_
  rintro e w2 ⟨rfl, g2⟩
  go_wp2_with fail
  refine (HP2.out _ (Kd.C_below HR.out (below_then g1 g2)) hc0).mono ?_
  rintro e w3 ⟨rfl, g3⟩
  have B13 := below_then g2 g3
  clear g2 g3
  go_wp2_with fail
  go_loopw [10] (fun v10 wr => ∃ k : Nat, v10 = .int .i64 k ∧ k ≤ l.length ∧ Below w1.heap.size w1 wr) (fun v10 _ => l.length - (intOf v10).toNat)
  case atStart => exact ⟨0, rfl, by omega, B13⟩
  case round =>
    clear B13
    obtain ⟨k, rfl, hkl, hB⟩ := hrel
    by_cases hlt : k < l.length
    · have t2 : decide ((k : Int) < (l.length : Int)) = true := decide_eq_true (by omega)
      have i0 : (0 : Int) ≤ (k : Int) := by omega
      have i1 : (k : Int) < (l.length : Int) := by omega
      obtain ⟨ad, rfl, k0, k1, k2, k3⟩ := at_T31 (Kd.C_below HR.out (below_then g1 hB)) (k : Int) (by omega) (by omega)
      rw [at_S31 l k hlt, Int.toNat_natCast] at k0 k1 k2 k3
      have hfit := HL.out l[k] (List.getElem_mem _)
      generalize l[k] = x at k0 k1 k2 k3 hfit
      have PC := fun w' => check_any x hfit w'
      have PD := fun w' => refcheck_any x hfit w'
      generalize PBlock.check (rowS x) = ch at PC PD
      obtain ⟨x0, x1, x2, x3⟩ := x
      have hD := hB.drew
      have HPC := Lib.hid PC
      have HPD := Lib.hid PD
      clear PC PD hfit
      go_wp2_with fail
      go_region_held3 (fun w' => w'.cell? (ad.add (k * 4)) = some (.string x0) ∧ w'.cell? ⟨(ad.add (k * 4)).block, (ad.add (k * 4)).off + 1, none⟩ = some (.int .u64 x1) ∧ w'.cell? ⟨(ad.add (k * 4)).block, (ad.add (k * 4)).off + 2, none⟩ = some (.int .i64 x2) ∧ w'.cell? ⟨(ad.add (k * 4)).block, (ad.add (k * 4)).off + 3, none⟩ = some (.string x3)) (exact ⟨k0, k1, k2, k3⟩) (first | (((with_reducible refine (HPC.out _).mono ?_); rintro e w6 ⟨rfl, hb8⟩; have k0 := (hb8.cell (World.block_lt_of_cell? _ _ k0)).trans k0; have k1 := (hb8.cell (World.block_lt_of_cell? _ _ k1)).trans k1; have k2 := (hb8.cell (World.block_lt_of_cell? _ _ k2)).trans k2; have k3 := (hb8.cell (World.block_lt_of_cell? _ _ k3)).trans k3; have hD := below_then hD hb8)) | (((with_reducible refine (HPD.out _).mono ?_); rintro e w7 ⟨rfl, hb9⟩; have k0 := (hb9.cell (World.block_lt_of_cell? _ _ k0)).trans k0; have k1 := (hb9.cell (World.block_lt_of_cell? _ _ k1)).trans k1; have k2 := (hb9.cell (World.block_lt_of_cell? _ _ k2)).trans k2; have k3 := (hb9.cell (World.block_lt_of_cell? _ _ k3)).trans k3; have hD := below_then hD hb9)))
      all_goals
        go_wp2_with fail
        go_roundw
        case rel => exact ⟨k + 1, by go_num, by omega, hD⟩
        case measure => simp [intOf]; omega
    · have t2 : decide ((k : Int) < (l.length : Int)) = false := decide_eq_false (by omega)
      have hr4 := Kd.C_below HR.out (below_then g1 hB)
      go_wp2_with fail
      refine (HP3.out A c (by omega) _ (Kd.C_below HT.out hB)).mono ?_
      rintro e w4 ⟨rfl, g4⟩
      have B4 := below_then hB g4
      go_wp2_with fail
      refine (HP4.out _ (Kd.C_below HR.out (below_then g1 B4)) hc0).mono ?_
      rintro e w5 ⟨rfl, g5⟩
      have B5 := below_then B4 g5
      go_wp2_with fail
      refine (kept_any l (by omega) A c A0 c0 _ (Kd.C_below HC.out B5) hc (Kd.C_below HR.out (below_then g1 B5)) hc0).mono ?_
      rintro e w6 ⟨rfl, g6⟩
      have B6 := below_then B5 g6
      go_wp2_with fail
      refine (PA _).mono ?_
      rintro e w7 ⟨rfl, g7⟩
      go_wp2_with fail
      go_ret
      exact ⟨rfl, below_then (below_then g1 B6) g7⟩
end Go.Proofs.Ytjgbcaemcohmpaa.Block
