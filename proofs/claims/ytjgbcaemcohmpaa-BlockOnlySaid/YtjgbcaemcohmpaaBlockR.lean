/- block.read, walked (printed by wip/readgen.py). -/
import Derived.Test.YtjgbcaemcohmpaaRBlk
import Derived.Test.YtjgbcaemcohmpaaPBlock2
import Derived.Test.YtjgbcaemcohmpaaPrint8
import Derived.ScopeJumps
namespace Go.Proofs.Ytjgbcaemcohmpaa.Block
open Go.RowKit Aid Txt Print Go.Proofs.YtjgbcaemcohmpaaW.PrintWords
/-- a row as the walks have it -/
def rowB (r : PBlock.Row) : S31 := ⟨B r.key, (r.seq : Int), r.kind, B r.value⟩
/-- what read hands back -/
def readR : Option (PBlock.Row × Nat) → S31
  | none => ⟨⟨#[]⟩, 0, 0, ⟨#[]⟩⟩
  | some x => rowB x.1
def readN : Option (PBlock.Row × Nat) → Nat
  | none => 0
  | some x => x.2
/-- a row as Go has it -/
def rowV (x : S31) : Value := .agg #[.string x.f0, .int .u64 x.f1, .int .i64 x.f2, .string x.f3]
theorem field_any (s : ByteArray) (hs : s.size ≤ 4611686018427387904) (m : Int) (hm : -9223372036854775808 ≤ m ∧ m ≤ 9223372036854775807) (w : World) :
    Calls Try.prog 45 #[.string s, .int .i64 m] w fun e w' => e = .returned (.tuple #[.string (B (PCode.field (L s) m).1), .int .i64 ((PCode.field (L s) m).2.1 : Int), .int .i64 ((PCode.field (L s) m).2.2 : Int)]) ∧ Below w.heap.size w w' := by
  obtain ⟨k, hk⟩ := (code_field s hs m hm).rounds
  exact code_Field.calls k s m _ _ _ w hk
/-- the row's block behind the result -/
def Ends (w : World) (o : Option (PBlock.Row × Nat)) (e : Ending) (w' : World) : Prop := e = .returned (.tuple #[rowV (readR o), .int .i64 (readN o : Int)]) ∧ Below w.heap.size w w'
theorem infoRow : (Try.prog.info? 31).map (·.size) = some 4 := by kernel_rfl
set_option maxRecDepth 100000 in
set_option maxHeartbeats 8000000 in
theorem read_any (s last : ByteArray) (hs : s.size ≤ 1000000) (hl : last.size ≤ 1000000) (w : World) :
    Calls Try.prog 31 #[.string s, .string last] w (Ends w (PBlock.read (L s) (L last))) := by
  have u1 := uint_len (L s)
  have P1 : ∀ w : World, Calls Try.prog 44 #[.string s] w fun e w' => e = .returned (.tuple #[.int .u64 ((PCode.uint (L s)).1 : Int), .int .i64 ((PCode.uint (L s)).2.1 : Int), .int .i64 ((PCode.uint (L s)).2.2 : Int)]) ∧ Below w.heap.size w w' := CodeW.uint_any s (by omega)
  go_enter Try.func31, Try.ntmps31
  go_wp2_with fail
  refine wp_scope_jumps 0 (fun a' w' => (∃ (u0 u1 u2 u3 u6 u7 u8 u9 u10 u11 u12 u13 u14 u15 u16 u17 u18 u19 u20 u21 u22 u23 u24 u25 u26 u27 u28 u29 u30 u31 u32 u33 u34 u35 u36 u37 u38 u39 u40 u41 u42 u43 u44 u45 u46 u47 u48 u49 u50 u51 u52 u53 u54 u55 u56 u57 u58 u59 u60 u61 u62 u63 u64 u65 u66 u67 u68 u69 u70 u71 u72 u73 u74 u75 u76 u77 u78 u79 u80 u81 u82 u83 u84 u85 u86 u87 u88 u89 u90 u91 u92 u93 u94 u95 u96 u5 : Value), a' = { tmps := #[u0, u1, u2, u3, .pointer (some ⟨w.heap.size, 0, none⟩), u5, u6, u7, u8, u9, u10, u11, u12, u13, u14, u15, u16, u17, u18, u19, u20, u21, u22, u23, u24, u25, u26, u27, u28, u29, u30, u31, u32, u33, u34, u35, u36, u37, u38, u39, u40, u41, u42, u43, u44, u45, u46, u47, u48, u49, u50, u51, u52, u53, u54, u55, u56, u57, u58, u59, u60, u61, u62, u63, u64, u65, u66, u67, u68, u69, u70, u71, u72, u73, u74, u75, u76, u77, u78, u79, u80, u81, u82, u83, u84, u85, u86, u87, u88, u89, u90, u91, u92, u93, u94, u95, u96], defers := [] }) ∧ (∃ (k : ByteArray) (q d : Int) (v : ByteArray), Blk w' w.heap.size 31 #[.string k, .int .u64 q, .int .i64 d, .string v]) ∧ Hid (PBlock.read (L s) (L last) = none) ∧ Below w.heap.size w w') (fun _ _ => 0) rfl ?first ?pass
  case pass =>
    clear P1 u1
    rintro a' w' ⟨ha, ⟨k, q, d, v, hK⟩, HZ, hB⟩
    obtain ⟨u0, ha⟩ := ha
    obtain ⟨u1, ha⟩ := ha
    obtain ⟨u2, ha⟩ := ha
    obtain ⟨u3, ha⟩ := ha
    obtain ⟨u6, ha⟩ := ha
    obtain ⟨u7, ha⟩ := ha
    obtain ⟨u8, ha⟩ := ha
    obtain ⟨u9, ha⟩ := ha
    obtain ⟨u10, ha⟩ := ha
    obtain ⟨u11, ha⟩ := ha
    obtain ⟨u12, ha⟩ := ha
    obtain ⟨u13, ha⟩ := ha
    obtain ⟨u14, ha⟩ := ha
    obtain ⟨u15, ha⟩ := ha
    obtain ⟨u16, ha⟩ := ha
    obtain ⟨u17, ha⟩ := ha
    obtain ⟨u18, ha⟩ := ha
    obtain ⟨u19, ha⟩ := ha
    obtain ⟨u20, ha⟩ := ha
    obtain ⟨u21, ha⟩ := ha
    obtain ⟨u22, ha⟩ := ha
    obtain ⟨u23, ha⟩ := ha
    obtain ⟨u24, ha⟩ := ha
    obtain ⟨u25, ha⟩ := ha
    obtain ⟨u26, ha⟩ := ha
    obtain ⟨u27, ha⟩ := ha
    obtain ⟨u28, ha⟩ := ha
    obtain ⟨u29, ha⟩ := ha
    obtain ⟨u30, ha⟩ := ha
    obtain ⟨u31, ha⟩ := ha
    obtain ⟨u32, ha⟩ := ha
    obtain ⟨u33, ha⟩ := ha
    obtain ⟨u34, ha⟩ := ha
    obtain ⟨u35, ha⟩ := ha
    obtain ⟨u36, ha⟩ := ha
    obtain ⟨u37, ha⟩ := ha
    obtain ⟨u38, ha⟩ := ha
    obtain ⟨u39, ha⟩ := ha
    obtain ⟨u40, ha⟩ := ha
    obtain ⟨u41, ha⟩ := ha
    obtain ⟨u42, ha⟩ := ha
    obtain ⟨u43, ha⟩ := ha
    obtain ⟨u44, ha⟩ := ha
    obtain ⟨u45, ha⟩ := ha
    obtain ⟨u46, ha⟩ := ha
    obtain ⟨u47, ha⟩ := ha
    obtain ⟨u48, ha⟩ := ha
    obtain ⟨u49, ha⟩ := ha
    obtain ⟨u50, ha⟩ := ha
    obtain ⟨u51, ha⟩ := ha
    obtain ⟨u52, ha⟩ := ha
    obtain ⟨u53, ha⟩ := ha
    obtain ⟨u54, ha⟩ := ha
    obtain ⟨u55, ha⟩ := ha
    obtain ⟨u56, ha⟩ := ha
    obtain ⟨u57, ha⟩ := ha
    obtain ⟨u58, ha⟩ := ha
    obtain ⟨u59, ha⟩ := ha
    obtain ⟨u60, ha⟩ := ha
    obtain ⟨u61, ha⟩ := ha
    obtain ⟨u62, ha⟩ := ha
    obtain ⟨u63, ha⟩ := ha
    obtain ⟨u64, ha⟩ := ha
    obtain ⟨u65, ha⟩ := ha
    obtain ⟨u66, ha⟩ := ha
    obtain ⟨u67, ha⟩ := ha
    obtain ⟨u68, ha⟩ := ha
    obtain ⟨u69, ha⟩ := ha
    obtain ⟨u70, ha⟩ := ha
    obtain ⟨u71, ha⟩ := ha
    obtain ⟨u72, ha⟩ := ha
    obtain ⟨u73, ha⟩ := ha
    obtain ⟨u74, ha⟩ := ha
    obtain ⟨u75, ha⟩ := ha
    obtain ⟨u76, ha⟩ := ha
    obtain ⟨u77, ha⟩ := ha
    obtain ⟨u78, ha⟩ := ha
    obtain ⟨u79, ha⟩ := ha
    obtain ⟨u80, ha⟩ := ha
    obtain ⟨u81, ha⟩ := ha
    obtain ⟨u82, ha⟩ := ha
    obtain ⟨u83, ha⟩ := ha
    obtain ⟨u84, ha⟩ := ha
    obtain ⟨u85, ha⟩ := ha
    obtain ⟨u86, ha⟩ := ha
    obtain ⟨u87, ha⟩ := ha
    obtain ⟨u88, ha⟩ := ha
    obtain ⟨u89, ha⟩ := ha
    obtain ⟨u90, ha⟩ := ha
    obtain ⟨u91, ha⟩ := ha
    obtain ⟨u92, ha⟩ := ha
    obtain ⟨u93, ha⟩ := ha
    obtain ⟨u94, ha⟩ := ha
    obtain ⟨u95, ha⟩ := ha
    obtain ⟨u96, ha⟩ := ha
    obtain ⟨u5, ha⟩ := ha
    subst ha
    have k0 := (hK.cell 0).trans rfl
    have k1 := (hK.cell 1).trans rfl
    have k2 := (hK.cell 2).trans rfl
    have k3 := (hK.cell 3).trans rfl
    have f0 := hK.frozen 0
    have f1 := hK.frozen 1
    have f2 := hK.frozen 2
    have f3 := hK.frozen 3
    go_wp2_with fail
    have hE : Blk ((((w'.setCell ⟨w.heap.size, 0, none⟩ (.string (⟨#[]⟩ : ByteArray))).setCell ⟨w.heap.size, 1, none⟩ (.int .u64 0)).setCell ⟨w.heap.size, 2, none⟩ (.int .i64 0)).setCell ⟨w.heap.size, 3, none⟩ (.string (⟨#[]⟩ : ByteArray))) w.heap.size 31 #[.string (⟨#[]⟩ : ByteArray), .int .u64 0, .int .i64 0, .string (⟨#[]⟩ : ByteArray)] := (((hK.set_ 0 _).set_ 1 _).set_ 2 _).set_ 3 _
    have hB4 := (((hB.setCell (p := ⟨w.heap.size, 0, none⟩) (Nat.le_refl _) (.string (⟨#[]⟩ : ByteArray))).setCell (p := ⟨w.heap.size, 1, none⟩) (Nat.le_refl _) (.int .u64 0)).setCell (p := ⟨w.heap.size, 2, none⟩) (Nat.le_refl _) (.int .i64 0)).setCell (p := ⟨w.heap.size, 3, none⟩) (Nat.le_refl _) (.string (⟨#[]⟩ : ByteArray))
    clear hK hB k0 k1 k2 k3 f0 f1 f2 f3
    generalize World.setCell (_ : World) _ _ = W4 at hE hB4 ⊢
    simp only [Exit.jump]
    refine bodyPost_ret (results_ct rfl _ _ w.heap.size 31 #[.string (⟨#[]⟩ : ByteArray), .int .u64 0, .int .i64 0, .string (⟨#[]⟩ : ByteArray)] (0, 0) _ rfl hE Try.underlying31 rfl infoRow) rfl ?_
    rw [HZ.out]
    exact ⟨rfl, hB4⟩
  case first =>
    obtain ⟨⟨sh, n1, e1⟩, hU⟩ : ∃ x, PCode.uint (L s) = x := ⟨_, rfl⟩
    rw [hU] at P1 u1
    have HU := Lib.hid hU
    clear hU
    obtain ⟨un, us⟩ := u1
    dsimp only at un us
    rw [L_length] at un
    go_wp2_with fail
    refine (P1 _).mono ?_
    rintro e w1 ⟨rfl, hb1⟩
    have K1 := (Blk.new w 31 #[.string (⟨#[]⟩ : ByteArray), .int .u64 0, .int .i64 0, .string (⟨#[]⟩ : ByteArray)]).below hb1 (by simp)
    have B1 := below_then ((Below.refl w.heap.size w).alloc (Nat.le_refl _) _) hb1
    clear P1 hb1
    by_cases c1 : e1 = 0
    · subst c1
      by_cases c2 : last.size < sh
      · have t2 : decide ((last.size : Int) < (sh : Int)) = true := decide_eq_true (by omega)
        go_wp2_with fail
        go_step3
        exact And.intro rfl ⟨⟨_, _, _, _, _, _, _, _, _, _, _, _, _, _, _, _, _, _, _, _, _, _, _, _, _, _, _, _, _, _, _, _, _, _, _, _, _, _, _, _, _, _, _, _, _, _, _, _, _, _, _, _, _, _, _, _, _, _, _, _, _, _, _, _, _, _, _, _, _, _, _, _, _, _, _, _, _, _, _, _, _, _, _, _, _, _, _, _, _, _, _, _, _, _, _, _, rfl⟩, ⟨_, _, _, _, K1⟩, Lib.hid (PBlock.read_a HU.out (.inr (by rw [L_length]; exact c2))), B1⟩
      · have t2 : decide ((last.size : Int) < (sh : Int)) = false := decide_eq_false (by omega)
        go_wp2_with fail
        have P2 := field_any (s.extract n1 s.size) (by rw [ByteArray.size_extract]; omega) 520 (by omega)
        rw [L_drop] at P2
        obtain ⟨⟨K, m1, e2⟩, hF⟩ : ∃ x, PCode.field ((L s).drop n1) 520 = x := ⟨_, rfl⟩
        rw [hF] at P2
        refine (P2 _).mono ?_
        rintro e w2 ⟨rfl, hb2⟩
        have K2 := K1.below hb2 K1.lt
        have B2 := below_then B1 hb2
        clear P2 hb2 K1 B1
        by_cases c3 : e2 = 0
        · subst c3
          obtain ⟨-, g1, g2, g3⟩ := PCode.field_ok hF
          rw [List.length_drop, L_length] at g2
          have HF := Lib.hid hF
          clear hF
          have zK : (B K).size ≤ 520 := by rw [size_B]; omega
          have zE : (last.extract 0 sh).size = sh := by rw [ByteArray.size_extract]; omega
          have hkey : L (last.extract 0 sh ++ B K) = (L last).take sh ++ K := by rw [L_append, L_take, L_B]
          have HKEY := Lib.hid hkey
          have ho1 : (9223372036854775807 < (last.extract 0 sh).size + (B K).size) = False := eq_false (by omega)
          clear hkey zE
          have k0 := (K2.cell 0).trans rfl
          have f0 := K2.frozen 0
          have t4 : decide ((sh : Int) ≤ (last.size : Int)) = true := decide_eq_true (by omega)
          generalize B K = bk at *
          go_wp2_with fail
          have K3 := K2.set_ 0 (.string (last.extract 0 sh ++ bk))
          have B3 := B2.setCell (p := ⟨w.heap.size, 0, none⟩) (Nat.le_refl _) (.string (last.extract 0 sh ++ bk))
          clear K2 B2 k0 f0
          generalize World.setCell w2 _ _ = w3 at K3 B3 ⊢
          obtain ⟨N2, hN2⟩ : ∃ N2, n1 + m1 = N2 := ⟨_, rfl⟩
          rw [hN2, show ((n1 : Int) + (m1 : Int)) = (N2 : Int) by omega]
          have P3 : ∀ w : World, Calls Try.prog 44 #[.string (s.extract N2 s.size)] w fun e w' => e = .returned (.tuple #[.int .u64 ((PCode.uint (L (s.extract N2 s.size))).1 : Int), .int .i64 ((PCode.uint (L (s.extract N2 s.size))).2.1 : Int), .int .i64 ((PCode.uint (L (s.extract N2 s.size))).2.2 : Int)]) ∧ Below w.heap.size w w' := CodeW.uint_any (s.extract N2 s.size) (by rw [ByteArray.size_extract]; omega)
          rw [L_drop] at P3
          have u3 := uint_len ((L s).drop N2)
          obtain ⟨⟨q, m2, e3⟩, hV⟩ : ∃ x, PCode.uint ((L s).drop N2) = x := ⟨_, rfl⟩
          rw [hV] at P3 u3
          obtain ⟨um, uq⟩ := u3
          dsimp only at um uq
          rw [List.length_drop, L_length] at um
          rw [← hN2] at hV
          have HV := Lib.hid hV
          clear hV
          refine (P3 _).mono ?_
          rintro e w4 ⟨rfl, hb4⟩
          have K4 := K3.below hb4 K3.lt
          have B4 := below_then B3 hb4
          clear P3 hb4 K3 B3
          have k0 := (K4.cell 0).trans rfl
          have k1 := (K4.cell 1).trans rfl
          have k2 := (K4.cell 2).trans rfl
          have k3 := (K4.cell 3).trans rfl
          have f0 := K4.frozen 0
          have f1 := K4.frozen 1
          have f2 := K4.frozen 2
          have f3 := K4.frozen 3
          have hN2le : N2 ≤ s.size := by omega
          have hm2le : N2 + m2 ≤ s.size := by omega
          have HN2 := Lib.hid hN2
          clear hN2
          have K5 := K4.set_ 1 (.int .u64 (q : Int))
          have B5 := B4.setCell (p := ⟨w.heap.size, 1, none⟩) (Nat.le_refl _) (.int .u64 (q : Int))
          have KK5 := Aside0.mk K5
          clear K4 K5
          by_cases c5 : e3 = 0
          · subst c5
            by_cases c6 : N2 + m2 = s.size
            · have t6 : ((N2 : Int) + (m2 : Int) == (s.size : Int)) = true := by simp; omega
              go_wp2_with fail
              go_step3
              exact And.intro rfl ⟨⟨_, _, _, _, _, _, _, _, _, _, _, _, _, _, _, _, _, _, _, _, _, _, _, _, _, _, _, _, _, _, _, _, _, _, _, _, _, _, _, _, _, _, _, _, _, _, _, _, _, _, _, _, _, _, _, _, _, _, _, _, _, _, _, _, _, _, _, _, _, _, _, _, _, _, _, _, _, _, _, _, _, _, _, _, _, _, _, _, _, _, _, _, _, _, _, _, rfl⟩, ⟨_, _, _, _, KK5.out⟩, Lib.hid (PBlock.read_c HU.out (by rw [L_length]; omega) HF.out HV.out (.inr (by have := HN2.out; rw [L_length]; omega))), B5⟩
            · have t6 : ((N2 : Int) + (m2 : Int) == (s.size : Int)) = false := by simp; omega
              obtain ⟨c, hcv⟩ : ∃ c, (L s).getD (N2 + m2) 0 = c := ⟨_, rfl⟩
              obtain ⟨bv, hbv⟩ : ∃ bv, c.toNat = bv := ⟨_, rfl⟩
              have hc256 := c.toNat_lt
              have hbx : ∀ h : N2 + m2 < s.size, ((s[N2 + m2]'h).toNat : Int) = (bv : Int) := fun h => by
                rw [← hbv, ← hcv, List.getD_eq_getElem?_getD, List.getElem?_eq_getElem (by rw [L_length]; exact h)]; rfl
              rw [hbv] at hc256
              have HCV := Lib.hid hcv
              have HBV := Lib.hid hbv
              clear hcv hbv
              have hsum : N2 + (m2 + 1) ≤ s.size := by omega
              by_cases c7 : bv = 1
              · have t7 : ((bv : Int) == 1) = true := by simp [c7]
                have H7 := Lib.hid c7
                clear c7
                go_wp2_with fail
                have K6 := KK5.out.set_ 2 (.int .i64 (bv : Int))
                have B6 := B5.setCell (p := ⟨w.heap.size, 2, none⟩) (Nat.le_refl _) (.int .i64 (bv : Int))
                clear KK5 B5 B4 k0 k1 k2 k3 f0 f1 f2 f3
                generalize World.setCell (_ : World) _ _ = w5 at K6 B6 ⊢
                have P5 := field_any (s.extract (N2 + (m2 + 1)) s.size) (by rw [ByteArray.size_extract]; omega) 2048 (by omega)
                rw [L_drop] at P5
                obtain ⟨⟨V, k, e4⟩, hG⟩ : ∃ x, PCode.field ((L s).drop (N2 + (m2 + 1))) 2048 = x := ⟨_, rfl⟩
                rw [hG] at P5
                refine (P5 _).mono ?_
                rintro e w6 ⟨rfl, hb6⟩
                have K7 := K6.below hb6 K6.lt
                have B7 := below_then B6 hb6
                clear P5 hb6 K6 B6
                have hG2 : PCode.field ((L s).drop (n1 + m1 + m2 + 1)) 2048 = (V, k, e4) := by rw [HN2.out]; exact hG
                have HC : (L s).getD (n1 + m1 + m2) 0 = 1 := by rw [HN2.out, HCV.out]; exact UInt8.toNat_inj.mp (by rw [HBV.out, H7.out]; rfl)
                by_cases c8 : e4 = 0
                · subst c8
                  have g4 := (PCode.field_ok hG).2.2.1
                  rw [List.length_drop, L_length] at g4
                  have hrd := PBlock.read_f HU.out (show sh ≤ (L last).length by rw [L_length]; omega) HF.out HV.out (show n1 + m1 + m2 ≠ (L s).length by have := HN2.out; rw [L_length]; omega) HC hG2
                  have HRD := Lib.hid hrd
                  clear hG hG2 HC hrd
                  have k0 := (K7.cell 0).trans rfl
                  have k1 := (K7.cell 1).trans rfl
                  have k2 := (K7.cell 2).trans rfl
                  have k3 := (K7.cell 3).trans rfl
                  have f0 := K7.frozen 0
                  have f1 := K7.frozen 1
                  have f2 := K7.frozen 2
                  have f3 := K7.frozen 3
                  go_wp2_with fail
                  have K8 := ((((K7.set_ 3 (.string (B V))).set_ 0 (.string (last.extract 0 sh ++ bk))).set_ 1 (.int .u64 (q : Int))).set_ 2 (.int .i64 (bv : Int))).set_ 3 (.string (B V))
                  have B8 := ((((B7.setCell (p := ⟨w.heap.size, 3, none⟩) (Nat.le_refl _) (.string (B V))).setCell (p := ⟨w.heap.size, 0, none⟩) (Nat.le_refl _) (.string (last.extract 0 sh ++ bk))).setCell (p := ⟨w.heap.size, 1, none⟩) (Nat.le_refl _) (.int .u64 (q : Int))).setCell (p := ⟨w.heap.size, 2, none⟩) (Nat.le_refl _) (.int .i64 (bv : Int))).setCell (p := ⟨w.heap.size, 3, none⟩) (Nat.le_refl _) (.string (B V))
                  clear K7 B7 k0 k1 k2 k3 f0 f1 f2 f3
                  generalize World.setCell (_ : World) _ _ = W8 at K8 B8 ⊢
                  simp only [Exit.jump]
                  refine bodyPost_ret (results_ct rfl _ _ w.heap.size 31 #[.string (last.extract 0 sh ++ bk), .int .u64 (q : Int), .int .i64 (bv : Int), .string (B V)] (0, 0) _ rfl K8 Try.underlying31 rfl infoRow) rfl ?_
                  rw [HRD.out]
                  refine ⟨congrArg (fun x => Ending.returned (.tuple x)) ?_, B8⟩
                  have hk1 : B ((L last).take sh ++ K) = last.extract 0 sh ++ bk := L_inj (by rw [L_B]; exact HKEY.out.symm)
                  have hn1 : ((N2 : Int) + ((m2 : Int) + 1) + (k : Int)) = ((n1 + m1 + m2 + 1 + k : Nat) : Int) := by have := HN2.out; omega
                  have hb1 : (bv : Int) = 1 := by rw [H7.out]; rfl
                  simp only [rowV, readR, readN, rowB, hk1, ← hn1, ← hb1]
                  rfl
                · have t8 : ((e4 : Int) != 0) = true := by simp [c8]
                  go_wp2_with fail
                  go_step3
                  exact And.intro rfl ⟨⟨_, _, _, _, _, _, _, _, _, _, _, _, _, _, _, _, _, _, _, _, _, _, _, _, _, _, _, _, _, _, _, _, _, _, _, _, _, _, _, _, _, _, _, _, _, _, _, _, _, _, _, _, _, _, _, _, _, _, _, _, _, _, _, _, _, _, _, _, _, _, _, _, _, _, _, _, _, _, _, _, _, _, _, _, _, _, _, _, _, _, _, _, _, _, _, _, rfl⟩, ⟨_, _, _, _, K7⟩, Lib.hid (PBlock.read_e HU.out (by rw [L_length]; omega) HF.out HV.out (by have := HN2.out; rw [L_length]; omega) HC hG2 c8), B7⟩
              · have t7 : ((bv : Int) == 1) = false := by simp; omega
                have H7 := Lib.hid c7
                clear c7
                go_wp2_with fail
                have K8 := ((((KK5.out.set_ 2 (.int .i64 (bv : Int))).set_ 0 (.string (last.extract 0 sh ++ bk))).set_ 1 (.int .u64 (q : Int))).set_ 2 (.int .i64 (bv : Int))).set_ 3 (.string (⟨#[]⟩ : ByteArray))
                have B8 := ((((B5.setCell (p := ⟨w.heap.size, 2, none⟩) (Nat.le_refl _) (.int .i64 (bv : Int))).setCell (p := ⟨w.heap.size, 0, none⟩) (Nat.le_refl _) (.string (last.extract 0 sh ++ bk))).setCell (p := ⟨w.heap.size, 1, none⟩) (Nat.le_refl _) (.int .u64 (q : Int))).setCell (p := ⟨w.heap.size, 2, none⟩) (Nat.le_refl _) (.int .i64 (bv : Int))).setCell (p := ⟨w.heap.size, 3, none⟩) (Nat.le_refl _) (.string (⟨#[]⟩ : ByteArray))
                clear KK5 B5 B4 k0 k1 k2 k3 f0 f1 f2 f3
                generalize World.setCell (_ : World) _ _ = W8 at K8 B8 ⊢
                simp only [Exit.jump]
                refine bodyPost_ret (results_ct rfl _ _ w.heap.size 31 #[.string (last.extract 0 sh ++ bk), .int .u64 (q : Int), .int .i64 (bv : Int), .string (⟨#[]⟩ : ByteArray)] (0, 0) _ rfl K8 Try.underlying31 rfl infoRow) rfl ?_
                have hrd := PBlock.read_d HU.out (show sh ≤ (L last).length by rw [L_length]; omega) HF.out HV.out (show n1 + m1 + m2 ≠ (L s).length by have := HN2.out; rw [L_length]; omega) (by rw [HN2.out, HCV.out]; intro e; rw [e] at HBV; exact H7.out (HBV.out.symm.trans rfl))
                rw [hrd]
                refine ⟨congrArg (fun x => Ending.returned (.tuple x)) ?_, B8⟩
                have hk1 : B ((L last).take sh ++ K) = last.extract 0 sh ++ bk := L_inj (by rw [L_B]; exact HKEY.out.symm)
                have hn1 : ((N2 : Int) + ((m2 : Int) + 1)) = ((n1 + m1 + m2 + 1 : Nat) : Int) := by have := HN2.out; omega
                have hb1 : (bv : Int) = (((L s).getD (n1 + m1 + m2) 0).toNat : Int) := by rw [HN2.out, HCV.out, HBV.out]
                simp only [rowV, readR, readN, rowB, hk1, ← hn1, ← hb1]
                rfl
          · have t5 : ((e3 : Int) != 0) = true := by simp [c5]
            go_wp2_with fail
            go_step3
            exact And.intro rfl ⟨⟨_, _, _, _, _, _, _, _, _, _, _, _, _, _, _, _, _, _, _, _, _, _, _, _, _, _, _, _, _, _, _, _, _, _, _, _, _, _, _, _, _, _, _, _, _, _, _, _, _, _, _, _, _, _, _, _, _, _, _, _, _, _, _, _, _, _, _, _, _, _, _, _, _, _, _, _, _, _, _, _, _, _, _, _, _, _, _, _, _, _, _, _, _, _, _, _, rfl⟩, ⟨_, _, _, _, KK5.out⟩, Lib.hid (PBlock.read_c HU.out (by rw [L_length]; omega) HF.out HV.out (.inl c5)), B5⟩
        · have t3 : ((e2 : Int) != 0) = true := by simp [c3]
          go_wp2_with fail
          go_step3
          exact And.intro rfl ⟨⟨_, _, _, _, _, _, _, _, _, _, _, _, _, _, _, _, _, _, _, _, _, _, _, _, _, _, _, _, _, _, _, _, _, _, _, _, _, _, _, _, _, _, _, _, _, _, _, _, _, _, _, _, _, _, _, _, _, _, _, _, _, _, _, _, _, _, _, _, _, _, _, _, _, _, _, _, _, _, _, _, _, _, _, _, _, _, _, _, _, _, _, _, _, _, _, _, rfl⟩, ⟨_, _, _, _, K2⟩, Lib.hid (PBlock.read_b HU.out (by rw [L_length]; omega) hF c3), B2⟩
    · have t1 : ((e1 : Int) != 0) = true := by simp [c1]
      go_wp2_with fail
      go_step3
      exact And.intro rfl ⟨⟨_, _, _, _, _, _, _, _, _, _, _, _, _, _, _, _, _, _, _, _, _, _, _, _, _, _, _, _, _, _, _, _, _, _, _, _, _, _, _, _, _, _, _, _, _, _, _, _, _, _, _, _, _, _, _, _, _, _, _, _, _, _, _, _, _, _, _, _, _, _, _, _, _, _, _, _, _, _, _, _, _, _, _, _, _, _, _, _, _, _, _, _, _, _, _, _, rfl⟩, ⟨_, _, _, _, K1⟩, Lib.hid (PBlock.read_a HU.out (.inl c1)), B1⟩
end Go.Proofs.Ytjgbcaemcohmpaa.Block
