/- Texts of this claim, joined by a program of this session (wip/pack.py): TabRf. -/
import Derived.Test.YtaigmemmgjlhgaaQTableBuild24
-- TabRf
namespace Go.Proofs.Ytaigmemmgjlhgaa.Tab
open Go.RowKit Aid Txt Print PLink Block Bits Go.Proofs.YtaigmemmgjlhgaaW.PrintWords
set_option linter.unusedSimpArgs false
set_option linter.unusedVariables false
theorem drop_get (l rest : List S28) (j : Nat) (h : l.drop j = rest) (m : Nat) (hm : m < rest.length) (q : Nat) (hq : j + m = q) (hl : q < l.length) : rest[m] = l[q] := by
 subst h; subst hq; exact List.getElem_drop
theorem cutAt_stop {l : List PBlock.Row} {B R : Int} {d n : Nat} (h : ¬ (n < l.length ∧ PTable.fits l B R (n + 1) = true)) : PTable.cutAt l B R d n = n := by
 cases d with
 | zero => rfl
 | succ d => rw [PTable.cutAt, if_neg h]
theorem cutAt_go {l : List PBlock.Row} {B R : Int} {d n : Nat} (h : n < l.length) (hf : PTable.fits l B R (n + 1) = true) (hd : l.length ≤ n + d) : ∃ d', d = d' + 1 ∧ PTable.cutAt l B R d n = PTable.cutAt l B R d' (n + 1) := by
 obtain ⟨d', rfl⟩ : ∃ d', d = d' + 1 := ⟨d - 1, by omega⟩
 exact ⟨d', rfl, by rw [PTable.cutAt, if_pos ⟨h, hf⟩]⟩
set_option maxRecDepth 100000 in
set_option maxHeartbeats 16000000 in
theorem rTable_any (l : List S28) (hl : ∀ x ∈ l, Fit x) (hs : l.length ≤ 1000) (A0 : Option Addr) (c0 : Nat) (hc0 : l.length ≤ c0) (B R Q : Int) (w : World) (hr0 : Kd.C k28 w A0 l.length l) :
  Calls Try.prog 21 #[.slice A0 l.length c0, .agg #[.int .i64 B, .int .i64 R, .int .i64 Q]] w fun e w' => e = .returned (.tuple #[.string (Txt.B (PTable.table (l.map rowS) B R Q (Bloom.filter Q.toNat (keysB l l.length))).1), .int .i64 ((PTable.table (l.map rowS) B R Q (Bloom.filter Q.toNat (keysB l l.length))).2 : Nat)]) ∧ Below w.heap.size w w' := by
 have HL := Lib.hid hl
 have HR := Lib.hid hr0
 have PR := Lib.hid (fun w' hr => rRight_any l hl hs A0 c0 hc0 B R Q w' hr)
 clear hl hr0
 obtain ⟨T, hT⟩ : ∃ T, PTable.table (l.map rowS) B R Q (Bloom.filter Q.toNat (keysB l l.length)) = T := ⟨_, rfl⟩
 rw [hT]
 obtain ⟨rg, hrg⟩ : ∃ rg, PTable.right (l.map rowS) B R Q = rg := ⟨_, rfl⟩
 rw [hrg] at PR
 by_cases hr0 : rg ≠ 0
 ·have m1 : ((rg : Int) != 0) = true := by simp; omega
  have e1 : T = ([], rg) := by rw [← hT]; unfold PTable.table; rw [hrg, if_pos hr0]
  subst e1
  clear hT hrg
  go_enter Try.func21, Try.ntmps21
  go_wp2_with fail
  refine (PR.out _ (Kd.C_alloc HR.out _)).mono ?_
  rintro e w1 ⟨rfl, hb1⟩
  go_wp2_with fail
  go_ret2
  exact ⟨rfl, q0d ((Below.refl _ _).alloc (Nat.le_refl _) _) hb1⟩
 obtain rfl : rg = 0 := by omega
 clear hr0
 have HT := Lib.hid hT
 have HG := Lib.hid hrg
 clear hT hrg
 go_enter Try.func21, Try.ntmps21
 go_wp2_with fail
 have BO := Blk.new w 41 #[.int .i64 B, .int .i64 R, .int .i64 Q]
 refine (PR.out _ (Kd.C_alloc HR.out _)).mono ?_
 rintro e w1 ⟨rfl, hb1⟩
 have hS : RS w w1 (.slice none 0 0) [] (.slice none 0 0) (keysB l 0) B R Q := ⟨Kd.R_nil _ _ _ _ _, Kd.R_nil _ _ _ _ _, BO.below hb1 BO.lt, q0d ((Below.refl w.heap.size w).alloc (Nat.le_refl _) _) hb1⟩
 clear hb1 BO PR
 go_wp2_with fail
 go_loopw [9, 10] (fun v9 v10 wr => ∃ i : Nat, i ≤ l.length ∧ v10 = .int .i64 i ∧ RS w wr (.slice none 0 0) [] v9 (keysB l i) B R Q) (fun _ v10 _ => l.length - (intOf v10).toNat)
 case atStart => exact ⟨0, by omega, rfl, hS⟩
 case round =>
  clear hS
  obtain ⟨i, hi, rfl, hS⟩ := hrel
  by_cases hlt : i < l.length
  ·have t1 : ((i : Int) < (l.length : Int)) = True := eq_true (by omega)
   have hCr := Kd.C_below HR.out hS.low
   obtain ⟨ad, rfl, k0, _, _, _⟩ := q15 hCr (i : Int) (by omega) (by omega)
   rw [q1h l i hlt, Int.toNat_natCast] at k0
   have hkl : (keysB l i).length ≤ 1000 := by unfold keysB; rw [List.length_map]; have := PTable.keysTo_length (l.map rowS) i; omega
   by_cases hz : i = 0
   ·subst hz
    have hk1 := keysB_zero l hlt
    generalize l[0] = x at k0 hk1
    obtain ⟨x0, x1, x2, x3⟩ := x
    dsimp only at k0 hk1
    rw [show ad.add (0 * 4) = ad from rfl] at k0
    go_wp2_with fail
    go_quiet (fail)
    have hS2 := hS.below (q0z (Below.refl _ _) nq)
    have k0 : (wr.drewN nq).cell? ad = some (.string x0) := k0
    generalize wr.drewN nq = W3 at hS2 k0 ⊢
    go_wp2_with (at_builtin; refine Kd.R_append Kd.string (w0 := w) w.heap.size rfl (.tmp 54) (.tmp 60) 69 9 (.string ⟨#[]⟩) 16 rfl Try.underlying69 info9 rfl (by decide) (by omega) u9 (keysB l 0) x0 [.string x0] (fun _ => True) (fun _ => False) rfl rfl (show Kd.M Kd.string _ _ _ x0 [.string x0] from rfl) (fun _ h => h.elim) (fun _ _ => trivial) hS2.keys hS2.low hS2.low.size (by omega) ?_; intro v9' w3 hR3 hb3 hg3 _)
    go_roundw
    case rel => exact ⟨1, by omega, rfl, by rw [hk1]; exact hS2.key hR3 hg3 hb3⟩
    case measure => simp [intOf]; omega
   ·obtain ⟨m, hm⟩ : ∃ m, m + 1 = i := ⟨i - 1, by omega⟩
    obtain ⟨ad', ea, j0, _, _, _⟩ := q15 hCr (m : Int) (by omega) (by omega)
    injection ea with ea
    subst ea
    have hml : m < l.length := by omega
    rw [q1h l m hml, Int.toNat_natCast] at j0
    have hkn : l[m].f0 ≠ l[i].f0 → keysB l (i + 1) = keysB l i ++ [l[i].f0] := by subst hm; exact keysB_new l m hlt
    have hks : l[m].f0 = l[i].f0 → keysB l (i + 1) = keysB l i := by subst hm; exact keysB_same l m hlt
    have e1 : IntKind.i64.wrap ((i : Int) - 1) = (m : Int) := by rw [show (i : Int) - 1 = (m : Int) by omega]; exact IntWalk.i64_in _ (by omega)
    have z1 : ((i : Int) == 0) = false := beq_false_of_ne (by omega)
    have z2 : (0 : Int) ≤ (m : Int) := by omega
    have z3 : (m : Int) < (l.length : Int) := by omega
    have z4 : (0 : Int) ≤ (i : Int) := by omega
    have HKN := Lib.hid hkn
    have HKS := Lib.hid hks
    clear hkn hks hm
    generalize l[m] = y at j0 HKN HKS
    generalize l[i] = x at k0 HKN HKS
    obtain ⟨x0, x1, x2, x3⟩ := x
    obtain ⟨y0, y1, y2, y3⟩ := y
    dsimp only at k0 j0 HKN HKS
    by_cases he : y0 = x0
    ·have b1 : (y0.toList == x0.toList) = true := by rw [he]; exact beq_self_eq_true _
     have b2 : (y0.toList != x0.toList) = false := by rw [bne, b1]; rfl
     go_wp2_with fail
     go_quiet (fail)
     have hS2 := hS.below (q0z (Below.refl _ _) nq)
     generalize wr.drewN nq = W3 at hS2 ⊢
     go_wp2_with fail
     go_roundw
     case rel => exact ⟨i + 1, by omega, by go_num, by rw [HKS.out he]; exact hS2⟩
     case measure => simp [intOf]; omega
    ·have b1 : (y0.toList == x0.toList) = false := beq_false_of_ne (fun e => he (L_inj (by rw [← Print.L_toList, ← Print.L_toList]; exact e)))
     have b2 : (y0.toList != x0.toList) = true := by rw [bne, b1]; rfl
     have HNE := Lib.hid he
     clear he
     go_wp2_with fail
     go_quiet (fail)
     have hS2 := hS.below (q0z (Below.refl _ _) nq)
     have k0 : (wr.drewN nq).cell? (ad.add (i * 4)) = some (.string x0) := k0
     generalize wr.drewN nq = W3 at hS2 k0 ⊢
     go_wp2_with (at_builtin; refine Kd.R_append Kd.string (w0 := w) w.heap.size rfl (.tmp 54) (.tmp 60) 69 9 (.string ⟨#[]⟩) 16 rfl Try.underlying69 info9 rfl (by decide) (by omega) u9 (keysB l i) x0 [.string x0] (fun _ => True) (fun _ => False) rfl rfl (show Kd.M Kd.string _ _ _ x0 [.string x0] from rfl) (fun _ h => h.elim) (fun _ _ => trivial) hS2.keys hS2.low hS2.low.size (by omega) ?_; intro v9' w3 hR3 hb3 hg3 _)
     go_roundw
     case rel => exact ⟨i + 1, by omega, by go_num, by rw [HKN.out HNE.out]; exact hS2.key hR3 hg3 hb3⟩
     case measure => simp [intOf]; omega
  ·have t1 : ((i : Int) < (l.length : Int)) = False := eq_false (by omega)
   obtain rfl : i = l.length := by omega
   clear hi hlt
   have hRZ := right_zero HG.out
   have hks1 : (keysB l l.length).length ≤ 1000 := by unfold keysB; rw [List.length_map]; have := PTable.keysTo_length (l.map rowS) l.length; omega
   have hks2 : ∀ s ∈ keysB l l.length, s.size ≤ 520 := keysB_small l hRZ.2.2.2.2.2.2.2
   have HKS2 := Lib.hid hks2
   clear hks2
   generalize keysB l l.length = ks at hS HT hks1 HKS2
   obtain ⟨Rn, rfl⟩ := Int.eq_ofNat_of_zero_le (show 0 ≤ R by omega)
   obtain ⟨Qn, rfl⟩ := Int.eq_ofNat_of_zero_le (show 0 ≤ Q by omega)
   have hCK := Lib.hid (show ∀ x ∈ l, PBlock.check (rowS x) = 0 from fun x hx => hRZ.2.2.2.2.2.2.2 _ (List.mem_map_of_mem hx))
   go_wp2_with fail
   go_loopw [7, 8, 11] (fun v7 v8 v11 wr => ∃ (j : Nat) (cs : List (List PBlock.Row)), j ≤ l.length ∧ v11 = .int .i64 j ∧ v7 = .string (Txt.B (PTable.bodyOf Rn cs)) ∧ PTable.chunks (l.map rowS) B Rn = cs ++ PTable.chunks ((l.drop j).map rowS) B Rn ∧ RS w wr v8 ((PTable.index Rn cs).map rowB) u9 ks B Rn Qn ∧ (PTable.bodyOf Rn cs).length ≤ 262144 ∧ cs.length ≤ j ∧ (∀ r ∈ PTable.index Rn cs, PBlock.check r = 0)) (fun _ _ v11 _ => l.length - (intOf v11).toNat)
   case atStart => exact ⟨0, [], by omega, rfl, rfl, rfl, hS, by simp [PTable.bodyOf], by simp, by intro r hr; cases hr⟩
   case round =>
    clear hS
    obtain ⟨j, cs, hj, rfl, rfl, hch, hS, hle, hcl, hik⟩ := hrel
    by_cases hlt : j < l.length
    case neg =>
     obtain rfl : j = l.length := by omega
     rw [List.drop_length, show PTable.chunks (([] : List S28).map rowS) B Rn = [] from rfl, List.append_nil] at hch
     have t1 : ((l.length : Int) < (l.length : Int)) = False := eq_false (by omega)
     have o2 := (hS.opt.cell 2).trans rfl
     obtain ⟨Ak, ck, rfl, hck, hCk⟩ := Kd.R_reads hS.keys
     obtain ⟨Ai, ci, rfl, hci, hCi⟩ := Kd.R_reads hS.idx
     have hQ : (Qn : Int).toNat = Qn := Int.toNat_natCast _
     have hT3 := HT.out
     rw [hQ] at hT3
     have MK := Lib.hid (fun w' hr => rMake_any Ak ck ks w' hr HKS2.out hks1 Qn (by omega) (by omega))
     have hF : (Bloom.filter Qn ks).length ≤ 5000 := by
      rw [Bloom.filter_length]
      have : ks.length * Qn ≤ 1000 * 32 := Nat.mul_le_mul hks1 (by omega)
      unfold Bloom.width
      omega
     generalize Bloom.filter Qn ks = F at MK hT3 hF
     have PF := fun w' => rPut_any (Txt.B F) (by rw [q0n]; omega) w'
     rw [L_B] at PF
     have hpl : (PFrame.put F).1.length ≤ 200000 := put_small F (by omega)
     have hil : ((PTable.index Rn cs).map rowB).length = cs.length := by rw [List.length_map, index_length]
     have hSB : ((PTable.index Rn cs).map rowB).map rowS = PTable.index Rn cs := by rw [List.map_map]; exact List.map_id'' (fun r => rowS_rowB r) _
     have hfi : ∀ x ∈ (PTable.index Rn cs).map rowB, Fit x := by
      intro x hx
      obtain ⟨r, hr, rfl⟩ := List.mem_map.1 hx
      have := (PBlock.check_ok (hik r hr)).2.2.2.2.1
      exact ⟨Int.natCast_nonneg _, by show (r.seq : Int) < _; omega⟩
     have hchk2 : ∀ x ∈ (PTable.index Rn cs).map rowB, PBlock.check (rowS x) = 0 := by
      intro x hx
      obtain ⟨r, hr, rfl⟩ := List.mem_map.1 hx
      rw [rowS_rowB]
      exact hik r hr
     have hBI := fun w' hr => rBuild_any ((PTable.index Rn cs).map rowB) hfi hchk2 (by omega) Ai ci hci 1 (by omega) (by omega) w' hr
     rw [hSB, show ((1 : Nat) : Int) = 1 from rfl, hil] at hBI
     rw [hil] at hCi
     obtain ⟨ib, hib⟩ : ∃ ib, PBlock.build (PTable.index Rn cs) 1 = ib := ⟨_, rfl⟩
     rw [hib] at hBI
     obtain ⟨it, ie⟩ := ib
     dsimp only at hBI
     have HBI := Lib.hid hBI
     have HCS := Lib.hid hch
     have HIB := Lib.hid hib
     have HT3 := Lib.hid hT3
     have PF := Lib.hid PF
     have hbz := q0n (PTable.bodyOf Rn cs)
     have hfz := q0n (PFrame.put F).1
     clear hBI hch hib hT3 hSB hfi hchk2 hik hQ hCK
     go_wp2_with fail
     refine (MK.out _ hCk).mono ?_
     rintro e w2 ⟨rfl, hb2⟩
     have hS2 := hS.below hb2
     go_wp2_with fail
     refine (PF.out _).mono ?_
     rintro e w3 ⟨rfl, hb3⟩
     have hS3 := hS2.below hb3
     have hCi3 := Kd.C_below (Kd.C_below hCi hb2) hb3
     clear hb2 hb3 hS hS2 MK PF o2
     by_cases hie : ie ≠ 0
     ·have b1 : ((ie : Int) != 0) = true := by simp [hie]
      have HT2 : Hid (T = ([], 3)) := Lib.hid (by
       rw [← HT3.out]
       refine q1x HG.out (.inl ?_)
       rw [HCS.out, HIB.out]
       exact hie)
      clear hie
      go_wp2_with fail
      refine (HBI.out _ hCi3).mono ?_
      rintro e w4 ⟨rfl, hb4⟩
      go_wp2_with fail
      go_ret2
      rw [HT2.out]
      exact ⟨rfl, q0d hS3.low hb4⟩
     obtain rfl : ie = 0 := by omega
     have hit : it.length ≤ 65536 := (PBlock.build_ok HIB.out).2.2.2.2.2.2
     have PI := fun w' => rPut_any (Txt.B it) (by rw [q0n]; exact hit) w'
     rw [L_B] at PI
     have hpl2 : (PFrame.put it).1.length ≤ 200000 := put_small it (by omega)
     have hiz := q0n (PFrame.put it).1
     have hft := PTable.foot_length (PTable.bodyOf Rn cs).length ((PTable.bodyOf Rn cs).length + (PFrame.put F).1.length)
     have hftz := q0n (PTable.foot (PTable.bodyOf Rn cs).length ((PTable.bodyOf Rn cs).length + (PFrame.put F).1.length))
     have PFT := fun w' => rFoot_any (PTable.bodyOf Rn cs).length ((PTable.bodyOf Rn cs).length + (PFrame.put F).1.length) (by omega) (by omega) w'
     have hwh : PTable.whole Rn cs F = PTable.bodyOf Rn cs ++ (PFrame.put F).1 ++ (PFrame.put it).1 ++ PTable.foot (PTable.bodyOf Rn cs).length ((PTable.bodyOf Rn cs).length + (PFrame.put F).1.length) := by
      unfold PTable.whole
      rw [HIB.out]
     have hwB : Txt.B (PTable.bodyOf Rn cs) ++ Txt.B (PFrame.put F).1 ++ Txt.B (PFrame.put it).1 ++ Txt.B (PTable.foot (PTable.bodyOf Rn cs).length ((PTable.bodyOf Rn cs).length + (PFrame.put F).1.length)) = Txt.B (PTable.whole Rn cs F) := L_inj (by rw [hwh]; simp only [q0t, L_B])
     have hwl : (PTable.whole Rn cs F).length = (PTable.bodyOf Rn cs).length + (PFrame.put F).1.length + (PFrame.put it).1.length + 20 := by rw [hwh]; simp only [List.length_append]; omega
     have HWB := Lib.hid hwB
     rw [hft] at hftz
     clear hwh hwB hft hil
     obtain ⟨i0, hi0⟩ : ∃ i0, (PTable.bodyOf Rn cs).length + (PFrame.put F).1.length = i0 := ⟨_, rfl⟩
     rw [hi0] at PFT hwl HWB hftz
     have x1 : (Txt.B (PTable.bodyOf Rn cs)).size + (Txt.B (PFrame.put F).1).size = i0 := by omega
     obtain ⟨i1, x2⟩ : ∃ i1, i0 + (Txt.B (PFrame.put it).1).size = i1 := ⟨_, rfl⟩
     obtain ⟨Wl, hWl⟩ : ∃ Wl, (PTable.whole Rn cs F).length = Wl := ⟨_, rfl⟩
     have x3 : i1 + (Txt.B (PTable.foot (PTable.bodyOf Rn cs).length i0)).size = Wl := by omega
     have x4 : IntKind.i64.wrap (((Txt.B (PTable.bodyOf Rn cs)).size : Int) + ((Txt.B (PFrame.put F).1).size : Int)) = (i0 : Int) := by rw [show ((Txt.B (PTable.bodyOf Rn cs)).size : Int) + ((Txt.B (PFrame.put F).1).size : Int) = (i0 : Int) by omega]; exact IntWalk.i64_in _ (by omega)
     rw [← hbz] at PFT
     have x5 : IntKind.u64.wrap ((Txt.B (PTable.bodyOf Rn cs)).size : Int) = ((Txt.B (PTable.bodyOf Rn cs)).size : Int) := q0o (by omega) (by omega)
     have x6 : IntKind.u64.wrap (i0 : Int) = (i0 : Int) := q0o (by omega) (by omega)
     have c1 : (9223372036854775807 < i0) = False := eq_false (by omega)
     have c2 : (9223372036854775807 < i1) = False := eq_false (by omega)
     have c3 : (9223372036854775807 < Wl) = False := eq_false (by omega)
     rw [← hbz] at HWB x3
     have PI := Lib.hid PI
     have PFT := Lib.hid PFT
     have HTT : Hid (T = if 262144 < Wl then ([], 3) else (PTable.whole Rn cs F, 0)) := Lib.hid (by
      rw [← HT3.out]
      by_cases h : 262144 < Wl
      ·rw [if_pos h]
       exact q1x HG.out (.inr (by rw [HCS.out, hWl]; exact h))
      ·rw [if_neg h]
       unfold PTable.table
       rw [if_neg (fun e => e HG.out), HCS.out, if_neg]
       rw [HIB.out, hWl]
       rintro (h1 | h1)
       ·exact h1 rfl
       ·exact h h1)
     clear hbz hfz hiz hftz hi0 hwl hWl hpl hpl2 hit hle
     generalize Txt.B (PFrame.put F).1 = tf at HWB x1 x4 ⊢
     generalize Txt.B (PFrame.put it).1 = tg at PI HWB x2
     generalize Txt.B (PTable.bodyOf Rn cs) = ts at PFT HWB x1 x3 x4 x5 ⊢
     generalize Txt.B (PTable.foot ts.size i0) = ft at PFT HWB x3
     go_wp2_with fail
     refine (HBI.out _ hCi3).mono ?_
     rintro e w4 ⟨rfl, hb4⟩
     have hB4 := q0d hS3.low hb4
     clear hb4 hS3 hCi3 HBI
     go_wp2_with fail
     refine (PI.out _).mono ?_
     rintro e w5 ⟨rfl, hb5⟩
     have hB5 := q0d hB4 hb5
     clear hB4 hb5 PI
     go_wp2_with fail
     refine (PFT.out _).mono ?_
     rintro e w6 ⟨rfl, hb6⟩
     have hB6 := q0d hB5 hb6
     clear hB5 hb6 PFT
     by_cases hfin : 262144 < Wl
     ·have t9 : decide ((262144 : Int) < (Wl : Int)) = true := decide_eq_true (by omega)
      have h9 := HTT.out
      rw [if_pos hfin] at h9
      have H9 := Lib.hid h9
      clear hfin h9
      go_wp2_with fail
      go_ret2
      rw [H9.out]
      exact ⟨rfl, hB6⟩
     ·have t9 : decide ((262144 : Int) < (Wl : Int)) = false := decide_eq_false (by omega)
      have h9 := HTT.out
      rw [if_neg hfin] at h9
      have H9 := Lib.hid h9
      clear hfin h9
      go_wp2_with fail
      go_ret2
      rw [H9.out, ← HWB.out]
      exact ⟨rfl, hB6⟩
    have t1 : ((j : Int) < (l.length : Int)) = True := eq_true (by omega)
    have hCr := Kd.C_below HR.out hS.low
    obtain ⟨ad, rfl, j0, _, _, _⟩ := q15 hCr (j : Int) (by omega) (by omega)
    rw [q1h l j hlt, Int.toNat_natCast] at j0
    obtain ⟨rest, hrest⟩ : ∃ rest, l.drop j = rest := ⟨_, rfl⟩
    have hrl : rest.length = l.length - j := by rw [← hrest, List.length_drop]
    have PB := Lib.hid (fun (n : Nat) (h1 : 1 ≤ n) (h2 : j + n ≤ l.length) w' (hb : Below w.heap.size w w') => rBuild_sub l HL.out hCK.out hs ad c0 hc0 Rn (by omega) (by omega) j n h1 h2 w' (Kd.C_below HR.out hb))
    have hchk : ∀ r ∈ rest.map rowS, PBlock.check r = 0 := fun r hr => hRZ.2.2.2.2.2.2.2 r (by rw [← hrest, List.map_drop] at hr; exact List.mem_of_mem_drop hr)
    have hone := one_ok hchk (Rn : Int) hRZ.2.2.1 hRZ.2.2.2.1
    rw [hrest] at hch PB
    have hml : (rest.map rowS).length = l.length - j := by rw [List.length_map, hrl]
    have HRL := Lib.hid (show rest.length = l.length - j ∧ l.drop j = rest from ⟨hrl, hrest⟩)
    have HCHK := Lib.hid hchk
    have HCH := Lib.hid hch
    have HIK := Lib.hid hik
    have HRZ := Lib.hid hRZ
    have HML := Lib.hid hml
    have o1 := (hS.opt.cell 1).trans rfl
    have s1 : IntKind.i64.wrap ((j : Int) + 1) = (j : Int) + 1 := IntWalk.i64_in _ (by omega)
    have z0 : (0 : Int) ≤ (j : Int) := by omega
    have z1 : (j : Int) ≤ (j : Int) + 1 := by omega
    have z2 : (j : Int) + 1 ≤ (c0 : Int) := by omega
    have z3 : (c0 = j) = False := eq_false (by omega)
    have z4 : (j : Int) + 1 ≤ (l.length : Int) := by omega
    have z5 : ((j : Int) + 1).toNat = j + 1 := by omega
    have z6 : j + 1 - j = 1 := by omega
    have PB1 := Lib.hid (PB.out 1 (Nat.le_refl _) (by omega))
    clear hrl hrest hchk hch hik hRZ hml
    rw [hone] at PB1
    have HONE := Lib.hid hone
    clear hone
    go_wp2_with fail
    have hSd := hS.below (Below.refl wr.heap.size wr).drew
    have LW := hSd.low
    go_region_held3 (fun w' => w'.cell? ⟨w.heap.size, 1, none⟩ = some (.int .i64 (Rn : Int))) (exact o1) (first | ((with_reducible refine (PB1.out _ LW).mono ?_); rintro e w2 ⟨rfl, hb2⟩; have hS2 := hSd.below hb2; have o1 := (hS2.opt.cell 1).trans rfl))
    clear PB1 hSd LW s1 z1 z2 z4 z5 z6 hb2 j0 hCr
    go_wp2_with fail
    go_loopw [12, 13] (fun v12 v13 wr => ∃ n d : Nat, 1 ≤ n ∧ j + n ≤ l.length ∧ v12 = .int .i64 n ∧ v13 = .string (Txt.B (PBlock.build ((rest.map rowS).take n) Rn).1) ∧ (PBlock.build ((rest.map rowS).take n) Rn).2 = 0 ∧ l.length - j ≤ n + d ∧ PTable.cutAt (rest.map rowS) B Rn d n = PTable.cut (rest.map rowS) B Rn ∧ RS w wr u8 ((PTable.index Rn cs).map rowB) u9 ks B Rn Qn) (fun v12 _ _ => l.length - (intOf v12).toNat)
    case atStart => exact ⟨1, l.length - j, by omega, by omega, rfl, rfl, HONE.out, by omega, by unfold PTable.cut; rw [HML.out], hS2⟩
    case round =>
     clear hS hS2
     obtain ⟨n, d, hn1, hn2, rfl, rfl, hok, hd, hcut, hS⟩ := hrel
     have s2 : IntKind.i64.wrap ((j : Int) + (n : Int)) = (j : Int) + (n : Int) := IntWalk.i64_in _ (by omega)
     have s3 : IntKind.i64.wrap ((j : Int) + (n : Int) + 1) = (j : Int) + (n : Int) + 1 := IntWalk.i64_in _ (by omega)
     have o0 := (hS.opt.cell 0).trans rfl
     have o1 := (hS.opt.cell 1).trans rfl
     by_cases hjn : j + n < l.length
     case' neg =>
      have t2 : ((j : Int) + (n : Int) < (l.length : Int)) = False := eq_false (by omega)
      have HN := Lib.hid (show PTable.cut (rest.map rowS) B Rn = n by rw [← hcut]; exact cutAt_stop (fun h => by have := h.1; have := HML.out; omega))
      have HOK := Lib.hid hok
      have hS2 := hS
      clear hcut hok hd o0 o1 hjn hS
     case' pos =>
       have t2 : ((j : Int) + (n : Int) < (l.length : Int)) = True := eq_true (by omega)
       have z1 : (j : Int) ≤ (j : Int) + (n : Int) + 1 := by omega
       have z2 : (j : Int) + (n : Int) + 1 ≤ (c0 : Int) := by omega
       have z4 : (j : Int) + (n : Int) + 1 ≤ (l.length : Int) := by omega
       have z5 : ((j : Int) + (n : Int) + 1).toNat = j + n + 1 := by omega
       have z6 : j + n + 1 - j = n + 1 := by omega
       have PB2 := PB.out (n + 1) (by omega) (by omega)
       have hf : PTable.fits (rest.map rowS) B Rn (n + 1) = ((PBlock.build ((rest.map rowS).take (n + 1)) Rn).2 == 0 && decide (((PBlock.build ((rest.map rowS).take (n + 1)) Rn).1.length : Int) ≤ B)) := rfl
       have hbz := q0n (PBlock.build ((rest.map rowS).take (n + 1)) Rn).1
       obtain ⟨r1, hr1⟩ : ∃ r1, (PBlock.build ((rest.map rowS).take (n + 1)) Rn).1 = r1 := ⟨_, rfl⟩
       obtain ⟨r2, hr2⟩ : ∃ r2, (PBlock.build ((rest.map rowS).take (n + 1)) Rn).2 = r2 := ⟨_, rfl⟩
       rw [hr1] at PB2 hf hbz
       rw [hr2] at PB2 hf
       have HR1 := Lib.hid hr1
       have HR2 := Lib.hid hr2
       have PB2 := Lib.hid PB2
       have HF := Lib.hid hf
       have HCUT := Lib.hid hcut
       have HOK := Lib.hid hok
       have HD := Lib.hid hd
       clear hr1 hr2 hf hcut hok hd
       have hSd := hS.below (Below.refl wr.heap.size wr).drew
       have LW := hSd.low
       go_wp2_with fail
       go_region_held3 (fun w' => w'.cell? ⟨w.heap.size, 1, none⟩ = some (.int .i64 (Rn : Int))) (exact o1) (first | ((with_reducible refine (PB2.out _ LW).mono ?_); rintro e w2 ⟨rfl, hb2⟩; have hS2 := hSd.below hb2; have o1 := (hS2.opt.cell 1).trans rfl; have o0 := (hS2.opt.cell 0).trans rfl))
       by_cases hfit : r2 = 0 ∧ (r1.length : Int) ≤ B
       case pos =>
        obtain ⟨rfl, hrb⟩ := hfit
        have b2 : decide (B < (r1.length : Int)) = false := decide_eq_false (by omega)
        obtain ⟨d', hd', hcut2⟩ := cutAt_go (l := rest.map rowS) (B := B) (R := (Rn : Int)) (n := n) (d := d) (by have := HML.out; omega) (by rw [HF.out]; simp [hrb]) (by have := HML.out; have := HD.out; omega)
        have HC2 := Lib.hid (hcut2.symm.trans HCUT.out)
        have HD2 := Lib.hid (show l.length - j ≤ n + 1 + d' by have := HD.out; omega)
        clear hcut2 hd' hrb
        go_wp2_with fail
        go_roundw
        case rel => exact ⟨n + 1, d', by omega, by omega, by go_num, by rw [HR1.out], HR2.out, HD2.out, HC2.out, hS2⟩
        case measure => simp [intOf]; omega
       have HN := Lib.hid (show PTable.cut (rest.map rowS) B Rn = n by
        rw [← HCUT.out]
        refine cutAt_stop (fun h => hfit ?_)
        have h2 := h.2
        rw [HF.out] at h2
        simp only [Bool.and_eq_true, beq_iff_eq, decide_eq_true_eq] at h2
        exact h2)
       have hx : ((r2 : Int) != 0) = true ∨ (r2 = 0 ∧ decide (B < (r1.length : Int)) = true) := by
        by_cases h : r2 = 0
        ·exact .inr ⟨h, decide_eq_true (by have : ¬ (r1.length : Int) ≤ B := fun e => hfit ⟨h, e⟩; omega)⟩
        ·exact .inl (by simp [h])
       clear hfit HF HCUT HD HR1 HR2 PB2 hbz t2 z1 z2 z4 z5 z6 hb2 hS
       rcases hx with b2 | ⟨rfl, b2⟩
     all_goals
      have hC2 := Kd.C_below HR.out hS2.low
      obtain ⟨n', hn'⟩ : ∃ n', n' + 1 = n := ⟨n - 1, by omega⟩
      obtain ⟨q, hq⟩ : ∃ q, j + n' = q := ⟨_, rfl⟩
      have hql : q < l.length := by omega
      obtain ⟨ad', ea, j0, _, _, _⟩ := q15 hC2 (j : Int) (by omega) (by omega)
      injection ea with ea
      subst ea
      obtain ⟨ad', ea, k0, k1, _, _⟩ := q15 HR.out (q : Int) (by omega) (by omega)
      injection ea with ea
      subst ea
      rw [q1h l j hlt, Int.toNat_natCast] at j0
      rw [q1h l q hql, Int.toNat_natCast] at k0 k1
      have l0 := World.block_lt_of_cell? w _ k0
      have l1 := World.block_lt_of_cell? w _ k1
      obtain ⟨hrl, hrest⟩ := HRL.out
      have hnr : n' < rest.length := by omega
      have hpr : 0 < rest.length := by omega
      have hent := entry_row rest (fun x hx => HL.out x (by rw [← hrest] at hx; exact List.mem_of_mem_drop hx)) n n' hn' hnr hpr (PTable.bodyOf Rn cs).length
      rw [drop_get l rest j hrest n' hnr q hq hql, drop_get l rest j hrest 0 hpr j rfl hlt] at hent
      have hf0 : (l[j]).f0.size ≤ 520 := by rw [← q0g]; exact (PBlock.check_ok (hCK.out l[j] (List.getElem_mem _))).2.2.2.2.2.1
      have P1 := fun w' => rPutField_any (l[j]).f0 (by omega) w'
      have z1 : (Txt.B (PCode.putField (L (l[j]).f0))).size ≤ 600 := by
       rw [q0n]; unfold PCode.putField; rw [List.length_append]
       have := PCode.putUint_length_ten (n := (L (l[j]).f0).length) (by rw [q0g]; omega)
       rw [q0g] at this ⊢; omega
      have P2 := fun w' => rPutUint_any ((PTable.bodyOf Rn cs).length : Int) (by omega) (by omega) w'
      have P3 := fun w' => rPutUint_any (n : Int) (by omega) (by omega) w'
      rw [Int.toNat_natCast] at P2 P3
      have z2 : (Txt.B (PCode.putUint (PTable.bodyOf Rn cs).length)).size ≤ 10 := by rw [q0n]; exact PCode.putUint_length_ten (by omega)
      have z3 : (Txt.B (PCode.putUint n)).size ≤ 10 := by rw [q0n]; exact PCode.putUint_length_ten (by omega)
      have hm := q0n (PTable.bodyOf Rn cs)
      have hbl : (PBlock.build ((rest.map rowS).take n) Rn).1.length ≤ 65536 := (PBlock.build_ok (s := (PBlock.build ((rest.map rowS).take n) Rn).1) (Prod.ext rfl HOK.out)).2.2.2.2.2.2
      have PP := Lib.hid (fun w' => rPut_any (Txt.B (PBlock.build ((rest.map rowS).take n) Rn).1) (by rw [q0n]; exact hbl) w')
      have HENT := Lib.hid hent
      have HBL := Lib.hid hbl
      have HQ := Lib.hid (show n' + 1 = n ∧ j + n' = q from ⟨hn', hq⟩)
      clear hent hrl hrest hnr hpr hbl hn' hq hC2
      generalize Txt.B (PCode.putField (L (l[j]).f0)) = p1 at P1 z1 HENT
      generalize Txt.B (PCode.putUint (PTable.bodyOf Rn cs).length) = p2 at P2 z2 HENT
      generalize Txt.B (PCode.putUint n) = p3 at P3 z3 HENT
      generalize l[j] = y at j0 P1 HENT hf0
      generalize l[q] = z at k0 k1 HENT
      have u1 : IntKind.u64.wrap ((PTable.bodyOf Rn cs).length : Int) = ((PTable.bodyOf Rn cs).length : Int) := q0o (by omega) (by omega)
      have u2 : IntKind.u64.wrap (n : Int) = (n : Int) := q0o (by omega) (by omega)
      have P1 := Lib.hid P1
      have P2 := Lib.hid P2
      have P3 := Lib.hid P3
      have t3 : (9223372036854775807 < p1.size + p2.size) = False := eq_false (by omega)
      have t4 : (9223372036854775807 < p1.size + p2.size + p3.size) = False := eq_false (by omega)
      have t5 : ((j : Int) < (l.length : Int)) = True := eq_true (by omega)
      have s4 : IntKind.i64.wrap ((j : Int) + (n : Int) - 1) = (q : Int) := by rw [show (j : Int) + (n : Int) - 1 = (q : Int) by have := HQ.out; omega]; exact IntWalk.i64_in _ (by omega)
      have y1 : (0 : Int) ≤ (q : Int) := by omega
      have y2 : (q : Int) < (l.length : Int) := by omega
      clear hf0 z1 z2 z3
      go_wp2_with fail
      refine (P1.out _).mono ?_
      rintro e w3 ⟨rfl, hb3⟩
      have hS3 := hS2.below hb3
      go_wp2_with fail
      refine (P2.out _).mono ?_
      rintro e w4 ⟨rfl, hb4⟩
      have hS4 := hS3.below hb4
      go_wp2_with fail
      refine (P3.out _).mono ?_
      rintro e w5 ⟨rfl, hb5⟩
      have hS5 := hS4.below hb5
      clear hb3 hb4 hb5 hS2 hS3 hS4 P1 P2 P3 j0
      have hil : ((PTable.index Rn cs).map rowB).length ≤ 1000 := by rw [List.length_map, index_length]; omega
      go_wp2_with fail
      have hL5 := hS5.low
      have hS6 := hS5.below (Below.refl w5.heap.size w5).drew
      go_region_held3 (fun w' => w'.cell? (ad.add (q * 4)) = some (.string z.f0) ∧ w'.cell? ⟨(ad.add (q * 4)).block, (ad.add (q * 4)).off + 1, none⟩ = some (.int .u64 z.f1)) (refine ⟨cellLow ?_ l0 k0, cellLow ?_ l1 k1⟩ <;> first | exact hb7 | exact (hL5.drew.alloc hL5.size _) | exact hL5.drew | exact hL5) (first | (refine Kd.R_append_step k28 (w0 := w) w.heap.size (by rfl) (.tmp 123) (.tmp 142) 32 28 (.agg #[(.string ⟨#[]⟩), (.int .u64 0), (.int .i64 0), (.string ⟨#[]⟩)]) 48 rfl Try.underlying32 info28 rfl (by decide) (by omega) u8 ((PTable.index Rn cs).map rowB) (⟨z.f0, z.f1, 1, p1 ++ p2 ++ p3⟩ : S28) [.string z.f0, .int .u64 z.f1, .int .i64 1, .string (p1 ++ p2 ++ p3)] (fun _ => True) (fun _ => False) rfl rfl (k28_mkM _ _ _ _) (fun _ h => h.elim) (fun _ _ => trivial) hS6.idx hS6.low hS6.low.size (by omega) ?_; intro v8' w7 hR7 hb7 hg7 _))
      have hS7 := hS6.row hR7 hg7 hb7
      clear hS5 hS6 hL5 hR7 hb7 hg7 k0 k1 hil
      obtain ⟨bs, hbs⟩ : ∃ bs, (PBlock.build ((rest.map rowS).take n) Rn).1 = bs := ⟨_, rfl⟩
      have hPP := PP.out
      have hBL := HBL.out
      rw [hbs] at hPP hBL ⊢
      rw [L_B] at hPP
      have hfr : PTable.frameOf Rn ((rest.map rowS).take n) = (PFrame.put bs).1 := by unfold PTable.frameOf; rw [hbs]
      have hsn := PTable.bodyOf_snoc (Rn : Int) cs ((rest.map rowS).take n)
      rw [hfr] at hsn
      have HIN := Lib.hid (PTable.index_snoc (Rn : Int) cs ((rest.map rowS).take n))
      have hpl : (PFrame.put bs).1.length ≤ 200000 := put_small bs (by omega)
      have hM2 : (PTable.bodyOf Rn cs).length + (PFrame.put bs).1.length = (PTable.bodyOf Rn (cs ++ [(rest.map rowS).take n])).length := by rw [hsn, List.length_append]
      have hcat : Txt.B (PTable.bodyOf Rn cs) ++ Txt.B (PFrame.put bs).1 = Txt.B (PTable.bodyOf Rn (cs ++ [(rest.map rowS).take n])) := L_inj (by rw [hsn, q0t, L_B, L_B, L_B])
      have hz8 := q0n (PFrame.put bs).1
      have hne : rest.map rowS ≠ [] := fun e => by have := HRL.out.1; rw [List.map_eq_nil_iff] at e; rw [e, List.length_nil] at this; omega
      have hch2 : PTable.chunks (l.map rowS) B Rn = (cs ++ [(rest.map rowS).take n]) ++ PTable.chunks ((l.drop (j + n)).map rowS) B Rn := by
       rw [HCH.out, PTable.chunks_cons hne, HN.out, ← List.drop_drop, HRL.out.2, List.map_drop]
       simp
      have hik2 : ∀ r ∈ PTable.index Rn (cs ++ [(rest.map rowS).take n]), PBlock.check r = 0 := by
       intro r hr
       rw [HIN.out] at hr
       rcases List.mem_append.1 hr with h | h
       ·exact HIK.out r h
       ·rw [List.mem_singleton.1 h]
        refine entry_check _ (fun e => ?_) (fun r hr => HCHK.out r (List.mem_of_mem_take hr)) (by rw [List.length_take]; have := HML.out; omega) _ (by omega)
        have h2 := congrArg List.length e
        rw [List.length_take, HML.out, List.length_nil] at h2
        omega
      rw [show (PTable.index Rn cs).map rowB ++ [(⟨z.f0, z.f1, 1, p1 ++ p2 ++ p3⟩ : S28)] = (PTable.index Rn (cs ++ [(rest.map rowS).take n])).map rowB by rw [HIN.out, List.map_append, List.map_cons, HENT.out]; rfl] at hS7
      have HIK2 := Lib.hid hik2
      have HCH2 := Lib.hid hch2
      have HPP := Lib.hid hPP
      clear hik2 hch2 hPP hfr hsn hne HENT HIN PP hbs HBL hBL
      obtain ⟨M2, hM3⟩ : ∃ M2, (PTable.bodyOf Rn (cs ++ [(rest.map rowS).take n])).length = M2 := ⟨_, rfl⟩
      rw [hM3] at hM2
      rw [← hm, ← hz8] at hM2
      have HM3 := Lib.hid hM3
      have HCAT := Lib.hid hcat
      have hM4 : M2 ≤ 500000 := by omega
      clear hM3 hcat hz8 hpl
      generalize Txt.B (PFrame.put bs).1 = tf at HPP HCAT hM2
      generalize Txt.B (PTable.bodyOf Rn cs) = ts at HCAT hM2 hm ⊢
      clear hm
      have c1 : (9223372036854775807 < M2) = False := eq_false (by omega)
      go_wp2_with fail
      refine (HPP.out _).mono ?_
      rintro e w8 ⟨rfl, hb8⟩
      have hS8 := hS7.below hb8
      clear hS7 hb8 HPP
      by_cases hbig : 262144 < M2
      ·have b7 : decide ((262144 : Int) < (M2 : Int)) = true := decide_eq_true (by omega)
       have HT2 : Hid (T = ([], 3)) := Lib.hid (by
        rw [← HT.out]
        refine q1x HG.out (.inr ?_)
        rw [HCH2.out]
        rw [← HM3.out] at hbig
        exact Nat.lt_of_lt_of_le hbig (Nat.le_trans (bodyOf_ge _ _ _) (whole_ge _ _ _)))
       clear hbig
       go_wp2_with fail
       go_ret2
       rw [HT2.out]
       exact ⟨rfl, hS8.low⟩
      ·have b7 : decide ((262144 : Int) < (M2 : Int)) = false := decide_eq_false (by omega)
       have HBG := Lib.hid hbig
       clear hbig
       go_wp2_with fail
       go_roundw
       case rel => exact ⟨j + n, cs ++ [(rest.map rowS).take n], by omega, by go_num, by rw [← HCAT.out], HCH2.out, hS8, by rw [HM3.out]; have := HBG.out; omega, by rw [List.length_append, List.length_singleton]; omega, HIK2.out⟩
       case measure => simp [intOf]; omega
end Go.Proofs.Ytaigmemmgjlhgaa.Tab
