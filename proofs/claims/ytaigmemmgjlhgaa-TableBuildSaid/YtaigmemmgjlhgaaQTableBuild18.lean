/- Texts of this claim, joined by a program of this session (wip/pack.py): RBlk, BlockR, GBlockR, Print12, Print1, Print24, RSum, Print20. -/
import Derived.ScopeJumps
import Derived.Test.YtaigmemmgjlhgaaQTableBuild4
import Derived.Test.YtaigmemmgjlhgaaQTableBuild6
import Derived.Test.YtaigmemmgjlhgaaQTableBuild8
import Derived.Test.YtaigmemmgjlhgaaQTableBuild9
import Derived.Test.YtaigmemmgjlhgaaQTableBuild12
import Derived.Test.YtaigmemmgjlhgaaQTableBuild14
import Derived.Test.YtaigmemmgjlhgaaQTableBuild15
import Derived.Test.YtaigmemmgjlhgaaQTableBuild16
-- RBlk
namespace Go.Proofs.Ytaigmemmgjlhgaa.Block
open Go.RowKit Aid Txt Print Go.Proofs.YtaigmemmgjlhgaaW.PrintWords
def rowS (x : S28) : PBlock.Row := ⟨L x.f0, x.f1.toNat, x.f2, L x.f3⟩
structure Fit (x : S28) : Prop where
 s0 : 0 ≤ x.f1
 s1 : x.f1 < 18446744073709551616
theorem L_toList (s : ByteArray) : s.toList = L s := ByteArray.toList_eq s
theorem check_eq (x : S28) (h : Fit x) (k : Nat) : block_Check.f (k + 3) x.f0 x.f1 x.f2 x.f3 = some ((PBlock.check (rowS x) : Nat) : Int) := by
 obtain ⟨a, s, q, v⟩ := x
 obtain ⟨h0, h1⟩ := h
 dsimp only at h0 h1
 unfold block_Check.f PBlock.check rowS
 dsimp only
 simp only [block_Check.j0, block_Check.j1, block_Check.j2, q0g, L_toList]
 by_cases c1 : q = 1
 ·subst c1
  by_cases c2 : L a = []
  ·simp [c2]
  ·by_cases c3 : s < 1
   ·have : s.toNat = 0 := by omega
    simp [c2, c3, this]
   ·have e1 : ¬ s.toNat = 0 := by omega
    by_cases c4 : 72057594037927936 ≤ s
    ·have : 72057594037927935 < s.toNat := by omega
     simp [c2, c3, c4, this]
    ·have e2 : ¬ 72057594037927935 < s.toNat := by omega
     by_cases c5 : 520 < a.size
     ·have : (520 : Int) < (a.size : Int) := by omega
      simp [c2, c3, c4, e1, e2, c5, this]
     ·have e5 : ¬ (520 : Int) < (a.size : Int) := by omega
      by_cases c6 : 2048 < v.size
      ·have : (2048 : Int) < (v.size : Int) := by omega
       simp [c2, c3, c4, e1, e2, c5, e5, c6, this]
      ·have : ¬ (2048 : Int) < (v.size : Int) := by omega
       simp [c2, c3, c4, e1, e2, c5, e5, c6, this]
 ·by_cases c1' : q = 2
  ·subst c1'
   by_cases c2 : L a = []
   ·simp [c2]
   ·by_cases c7 : L v = []
    ·by_cases c3 : s < 1
     ·have : s.toNat = 0 := by omega
      simp [c2, c3, c7, this]
     ·have e1 : ¬ s.toNat = 0 := by omega
      by_cases c4 : 72057594037927936 ≤ s
      ·have : 72057594037927935 < s.toNat := by omega
       simp [c2, c3, c4, c7, this]
      ·have e2 : ¬ 72057594037927935 < s.toNat := by omega
       by_cases c5 : 520 < a.size
       ·have : (520 : Int) < (a.size : Int) := by omega
        simp [c2, c3, c4, c7, e1, e2, c5, this]
       ·have e5 : ¬ (520 : Int) < (a.size : Int) := by omega
        by_cases c6 : 2048 < v.size
        ·have : (2048 : Int) < (v.size : Int) := by omega
         simp [c2, c3, c4, c7, e1, e2, c5, e5, c6, this]
        ·have : ¬ (2048 : Int) < (v.size : Int) := by omega
         simp [c2, c3, c4, c7, e1, e2, c5, e5, c6, this]
    ·simp [c2, c7]
  ·simp [c1, c1']
theorem ahead_eq (x : S28) (hx : Fit x) (key : ByteArray) (s : Int) (h0 : 0 ≤ s) : block_ahead.f x.f0 x.f1 x.f2 x.f3 key s = some (PBlock.ahead (rowS x) (L key) s.toNat) := by
 obtain ⟨a, q, c, v⟩ := x
 obtain ⟨g0, g1⟩ := hx
 dsimp only at g0 g1
 unfold block_ahead.f PBlock.ahead rowS
 dsimp only
 rw [L_toList, L_toList]
 have e : (decide (q > s)) = decide (s.toNat < q.toNat) := decide_eq_decide.2 (by omega)
 show (if PCode.lt (L a) (L key) = true then some true else if L a = L key then some (decide (q > s)) else some false) = some (PCode.lt (L a) (L key) || (L a == L key && decide (s.toNat < q.toNat)))
 rw [e]
 cases PCode.lt (L a) (L key) with
 | true => rfl
 | false =>
  by_cases c2 : L a = L key
  ·rw [if_neg (by simp), if_pos c2, c2]; simp
  ·rw [if_neg (by simp), if_neg c2, beq_eq_false_iff_ne.2 c2]; simp
theorem four_eq (n : Nat) : block_four.f (n : Int) = some (B (PBlock.four n)) := by
 unfold block_four.f PBlock.four
 congr 1
theorem q1h (l : List S28) (i : Nat) (h : i < l.length) : q0i l (i : Int) = l[i] := by
 unfold q0i
 rw [Int.toNat_natCast, List.getD_eq_getElem?_getD, List.getElem?_eq_getElem h]; rfl
theorem order_ev (l : List S28) (hl : ∀ x ∈ l, Fit x) (hs : l.length ≤ 9223372036854775806) (d : Nat) : ∀ i : Nat, i < l.length → l.length - (i + 1) ≤ d → Ev (fun k => block_Order.l0 k l ((i + 1 : Nat) : Int)) (PBlock.order ((l.drop i).map rowS)) := by
 induction d with
 | zero =>
  intro i hi hd
  refine Ev.step (f := fun _ => some true) (fun k => ?_) ?_
  ·simp only [block_Order.l0]
   rw [if_neg (by omega)]
  ·have : (l.drop i).map rowS = [rowS l[i]] := by
    rw [List.drop_eq_getElem_cons hi, List.drop_eq_nil_of_le (by omega)]; rfl
   rw [this]
   exact Ev.now _
 | succ d ih =>
  intro i hi hd
  by_cases h1 : i + 1 < l.length
  ·have e1 : (l.drop i).map rowS = rowS l[i] :: rowS l[i + 1] :: ((l.drop (i + 1 + 1)).map rowS) := by
    rw [List.drop_eq_getElem_cons hi, List.drop_eq_getElem_cons h1]; rfl
   have e2 : (l.drop (i + 1)).map rowS = rowS l[i + 1] :: ((l.drop (i + 1 + 1)).map rowS) := by
    rw [List.drop_eq_getElem_cons h1]; rfl
   have ha := ahead_eq l[i] (hl _ (List.getElem_mem _)) (l[i + 1]).f0 (l[i + 1]).f1 (hl _ (List.getElem_mem _)).s0
   have hw : wrap64 (((i + 1 : Nat) : Int) - 1) = (i : Int) := by rw [q0u (by omega) (by omega)]; omega
   have hn : wrap64 (((i + 1 : Nat) : Int) + 1) = ((i + 1 + 1 : Nat) : Int) := by rw [q0u (by omega) (by omega)]; omega
   cases hc : PBlock.ahead (rowS l[i]) (L (l[i + 1]).f0) (l[i + 1]).f1.toNat with
   | true =>
    have e := ih (i + 1) h1 (by omega)
    refine Ev.step (fun k => ?_) (by rw [e1, PBlock.order, show PBlock.ahead (rowS l[i]) (rowS l[i + 1]).key (rowS l[i + 1]).seq = true from hc, Bool.true_and, ← e2]; exact e)
    simp only [block_Order.l0]
    rw [if_pos (by omega), hw, if_pos (by omega), if_pos (by omega), if_pos (by omega), q1h l i hi, q1h l (i + 1) h1, ha, hc, Option.bind_some, if_pos rfl, hn]
   | false =>
    refine Ev.step (f := fun _ => some false) (fun k => ?_) (by rw [e1, PBlock.order, show PBlock.ahead (rowS l[i]) (rowS l[i + 1]).key (rowS l[i + 1]).seq = false from hc, Bool.false_and]; exact Ev.now _)
    simp only [block_Order.l0]
    rw [if_pos (by omega), hw, if_pos (by omega), if_pos (by omega), if_pos (by omega), q1h l i hi, q1h l (i + 1) h1, ha, hc, Option.bind_some, if_neg (by simp)]
  ·refine Ev.step (f := fun _ => some true) (fun k => ?_) ?_
   ·simp only [block_Order.l0]
    rw [if_neg (by omega)]
   ·have : (l.drop i).map rowS = [rowS l[i]] := by
     rw [List.drop_eq_getElem_cons hi, List.drop_eq_nil_of_le (by omega)]; rfl
    rw [this]
    exact Ev.now _
theorem order_eq (l : List S28) (hl : ∀ x ∈ l, Fit x) (hs : l.length ≤ 9223372036854775806) : Ev (fun k => block_Order.f k l) (PBlock.order (l.map rowS)) := by
 unfold block_Order.f
 cases l with
 | nil =>
  refine Ev.step (f := fun _ => some true) (fun k => ?_) (Ev.now _)
  simp only [block_Order.l0]
  rw [if_neg (by simp)]
 | cons a l =>
  have := order_ev (a :: l) hl hs _ 0 (by simp) (Nat.le_refl _)
  simp only [List.drop_zero] at this
  exact this
end Go.Proofs.Ytaigmemmgjlhgaa.Block
-- BlockR
namespace Go.Proofs.Ytaigmemmgjlhgaa.Block
open Go.RowKit Aid Txt Print Go.Proofs.YtaigmemmgjlhgaaW.PrintWords
def rowB (r : PBlock.Row) : S28 := ⟨B r.key, (r.seq : Int), r.kind, B r.value⟩
def readR : Option (PBlock.Row × Nat) → S28
 | none => ⟨⟨#[]⟩, 0, 0, ⟨#[]⟩⟩
 | some x => rowB x.1
def readN : Option (PBlock.Row × Nat) → Nat
 | none => 0
 | some x => x.2
def rowV (x : S28) : Value := .agg #[.string x.f0, .int .u64 x.f1, .int .i64 x.f2, .string x.f3]
theorem field_any (s : ByteArray) (hs : s.size ≤ 4611686018427387904) (m : Int) (hm : -9223372036854775808 ≤ m ∧ m ≤ 9223372036854775807) (w : World) :
  Calls Try.prog 67 #[.string s, .int .i64 m] w fun e w' => e = .returned (.tuple #[.string (B (PCode.field (L s) m).1), .int .i64 ((PCode.field (L s) m).2.1 : Int), .int .i64 ((PCode.field (L s) m).2.2 : Int)]) ∧ Below w.heap.size w w' := by
 obtain ⟨k, hk⟩ := (code_field s hs m hm).rounds
 exact code_Field.calls k s m _ _ _ w hk
def Ends (w : World) (o : Option (PBlock.Row × Nat)) (e : Ending) (w' : World) : Prop := e = .returned (.tuple #[rowV (readR o), .int .i64 (readN o : Int)]) ∧ Below w.heap.size w w'
theorem infoRow : (Try.prog.info? 28).map (·.size) = some 4 := by kernel_rfl
set_option maxRecDepth 100000 in
set_option maxHeartbeats 8000000 in
theorem read_any (s last : ByteArray) (hs : s.size ≤ 1000000) (hl : last.size ≤ 1000000) (w : World) :
  Calls Try.prog 65 #[.string s, .string last] w (Ends w (PBlock.read (L s) (L last))) := by
 have u1 := uint_len (L s)
 have P1 : ∀ w : World, Calls Try.prog 68 #[.string s] w fun e w' => e = .returned (.tuple #[.int .u64 ((PCode.uint (L s)).1 : Int), .int .i64 ((PCode.uint (L s)).2.1 : Int), .int .i64 ((PCode.uint (L s)).2.2 : Int)]) ∧ Below w.heap.size w w' := CodeW.uint_any s (by omega)
 go_enter Try.func65, Try.ntmps65
 go_wp2_with fail
 refine wp_scope_jumps 0 (fun a' w' => (∃ (u0 u1 u2 u3 u6 u7 u8 u9 u10 u11 u12 u13 u14 u15 u16 u17 u18 u19 u20 u21 u22 u23 u24 u25 u26 u27 u28 u29 u30 u31 u32 u33 u34 u35 u36 u37 u38 u39 u40 u41 u42 u43 u44 u45 u46 u47 u48 u49 u50 u51 u52 u53 u54 u55 u56 u57 u58 u59 u60 u61 u62 u63 u64 u65 u66 u67 u68 u69 u70 u71 u72 u73 u74 u75 u76 u77 u78 u79 u80 u81 u82 u83 u84 u85 u86 u87 u88 u89 u90 u91 u92 u93 u94 u95 u96 u5 : Value), a' = { tmps := #[u0, u1, u2, u3, .pointer (some ⟨w.heap.size, 0, none⟩), u5, u6, u7, u8, u9, u10, u11, u12, u13, u14, u15, u16, u17, u18, u19, u20, u21, u22, u23, u24, u25, u26, u27, u28, u29, u30, u31, u32, u33, u34, u35, u36, u37, u38, u39, u40, u41, u42, u43, u44, u45, u46, u47, u48, u49, u50, u51, u52, u53, u54, u55, u56, u57, u58, u59, u60, u61, u62, u63, u64, u65, u66, u67, u68, u69, u70, u71, u72, u73, u74, u75, u76, u77, u78, u79, u80, u81, u82, u83, u84, u85, u86, u87, u88, u89, u90, u91, u92, u93, u94, u95, u96], defers := [] }) ∧ (∃ (k : ByteArray) (q d : Int) (v : ByteArray), Blk w' w.heap.size 28 #[.string k, .int .u64 q, .int .i64 d, .string v]) ∧ Hid (PBlock.read (L s) (L last) = none) ∧ Below w.heap.size w w') (fun _ _ => 0) rfl ?first ?pass
 case pass =>
  clear P1 u1
  rintro a' w' ⟨ha, ⟨k, q, d, v, hK⟩, HZ, hB⟩
  obtain ⟨u0, ha⟩ := ha
  obtain ⟨u1, ha⟩ := ha
  obtain ⟨u2, ha⟩ := ha
  obtain ⟨u3, ha⟩ := ha
  obtain ⟨u6, ha⟩ := ha
  obtain ⟨u7, ha⟩ := ha
  obtain ⟨u8, ha⟩ := ha
  obtain ⟨u9, ha⟩ := ha
  obtain ⟨u10, ha⟩ := ha
  obtain ⟨u11, ha⟩ := ha
  obtain ⟨u12, ha⟩ := ha
  obtain ⟨u13, ha⟩ := ha
  obtain ⟨u14, ha⟩ := ha
  obtain ⟨u15, ha⟩ := ha
  obtain ⟨u16, ha⟩ := ha
  obtain ⟨u17, ha⟩ := ha
  obtain ⟨u18, ha⟩ := ha
  obtain ⟨u19, ha⟩ := ha
  obtain ⟨u20, ha⟩ := ha
  obtain ⟨u21, ha⟩ := ha
  obtain ⟨u22, ha⟩ := ha
  obtain ⟨u23, ha⟩ := ha
  obtain ⟨u24, ha⟩ := ha
  obtain ⟨u25, ha⟩ := ha
  obtain ⟨u26, ha⟩ := ha
  obtain ⟨u27, ha⟩ := ha
  obtain ⟨u28, ha⟩ := ha
  obtain ⟨u29, ha⟩ := ha
  obtain ⟨u30, ha⟩ := ha
  obtain ⟨u31, ha⟩ := ha
  obtain ⟨u32, ha⟩ := ha
  obtain ⟨u33, ha⟩ := ha
  obtain ⟨u34, ha⟩ := ha
  obtain ⟨u35, ha⟩ := ha
  obtain ⟨u36, ha⟩ := ha
  obtain ⟨u37, ha⟩ := ha
  obtain ⟨u38, ha⟩ := ha
  obtain ⟨u39, ha⟩ := ha
  obtain ⟨u40, ha⟩ := ha
  obtain ⟨u41, ha⟩ := ha
  obtain ⟨u42, ha⟩ := ha
  obtain ⟨u43, ha⟩ := ha
  obtain ⟨u44, ha⟩ := ha
  obtain ⟨u45, ha⟩ := ha
  obtain ⟨u46, ha⟩ := ha
  obtain ⟨u47, ha⟩ := ha
  obtain ⟨u48, ha⟩ := ha
  obtain ⟨u49, ha⟩ := ha
  obtain ⟨u50, ha⟩ := ha
  obtain ⟨u51, ha⟩ := ha
  obtain ⟨u52, ha⟩ := ha
  obtain ⟨u53, ha⟩ := ha
  obtain ⟨u54, ha⟩ := ha
  obtain ⟨u55, ha⟩ := ha
  obtain ⟨u56, ha⟩ := ha
  obtain ⟨u57, ha⟩ := ha
  obtain ⟨u58, ha⟩ := ha
  obtain ⟨u59, ha⟩ := ha
  obtain ⟨u60, ha⟩ := ha
  obtain ⟨u61, ha⟩ := ha
  obtain ⟨u62, ha⟩ := ha
  obtain ⟨u63, ha⟩ := ha
  obtain ⟨u64, ha⟩ := ha
  obtain ⟨u65, ha⟩ := ha
  obtain ⟨u66, ha⟩ := ha
  obtain ⟨u67, ha⟩ := ha
  obtain ⟨u68, ha⟩ := ha
  obtain ⟨u69, ha⟩ := ha
  obtain ⟨u70, ha⟩ := ha
  obtain ⟨u71, ha⟩ := ha
  obtain ⟨u72, ha⟩ := ha
  obtain ⟨u73, ha⟩ := ha
  obtain ⟨u74, ha⟩ := ha
  obtain ⟨u75, ha⟩ := ha
  obtain ⟨u76, ha⟩ := ha
  obtain ⟨u77, ha⟩ := ha
  obtain ⟨u78, ha⟩ := ha
  obtain ⟨u79, ha⟩ := ha
  obtain ⟨u80, ha⟩ := ha
  obtain ⟨u81, ha⟩ := ha
  obtain ⟨u82, ha⟩ := ha
  obtain ⟨u83, ha⟩ := ha
  obtain ⟨u84, ha⟩ := ha
  obtain ⟨u85, ha⟩ := ha
  obtain ⟨u86, ha⟩ := ha
  obtain ⟨u87, ha⟩ := ha
  obtain ⟨u88, ha⟩ := ha
  obtain ⟨u89, ha⟩ := ha
  obtain ⟨u90, ha⟩ := ha
  obtain ⟨u91, ha⟩ := ha
  obtain ⟨u92, ha⟩ := ha
  obtain ⟨u93, ha⟩ := ha
  obtain ⟨u94, ha⟩ := ha
  obtain ⟨u95, ha⟩ := ha
  obtain ⟨u96, ha⟩ := ha
  obtain ⟨u5, ha⟩ := ha
  subst ha
  have k0 := (hK.cell 0).trans rfl
  have k1 := (hK.cell 1).trans rfl
  have k2 := (hK.cell 2).trans rfl
  have k3 := (hK.cell 3).trans rfl
  have f0 := hK.frozen 0
  have f1 := hK.frozen 1
  have f2 := hK.frozen 2
  have f3 := hK.frozen 3
  go_wp2_with fail
  have hE : Blk ((((w'.setCell ⟨w.heap.size, 0, none⟩ (.string (⟨#[]⟩ : ByteArray))).setCell ⟨w.heap.size, 1, none⟩ (.int .u64 0)).setCell ⟨w.heap.size, 2, none⟩ (.int .i64 0)).setCell ⟨w.heap.size, 3, none⟩ (.string (⟨#[]⟩ : ByteArray))) w.heap.size 28 #[.string (⟨#[]⟩ : ByteArray), .int .u64 0, .int .i64 0, .string (⟨#[]⟩ : ByteArray)] := (((hK.set_ 0 _).set_ 1 _).set_ 2 _).set_ 3 _
  have hB4 := (((hB.setCell (p := ⟨w.heap.size, 0, none⟩) (Nat.le_refl _) (.string (⟨#[]⟩ : ByteArray))).setCell (p := ⟨w.heap.size, 1, none⟩) (Nat.le_refl _) (.int .u64 0)).setCell (p := ⟨w.heap.size, 2, none⟩) (Nat.le_refl _) (.int .i64 0)).setCell (p := ⟨w.heap.size, 3, none⟩) (Nat.le_refl _) (.string (⟨#[]⟩ : ByteArray))
  clear hK hB k0 k1 k2 k3 f0 f1 f2 f3
  generalize World.setCell (_ : World) _ _ = W4 at hE hB4 ⊢
  simp only [Exit.jump]
  refine bodyPost_ret (q1e rfl _ _ w.heap.size 28 #[.string (⟨#[]⟩ : ByteArray), .int .u64 0, .int .i64 0, .string (⟨#[]⟩ : ByteArray)] (0, 0) _ rfl hE Try.underlying28 rfl infoRow) rfl ?_
  rw [HZ.out]
  exact ⟨rfl, hB4⟩
 case first =>
  obtain ⟨⟨sh, n1, e1⟩, hU⟩ : ∃ x, PCode.uint (L s) = x := ⟨_, rfl⟩
  rw [hU] at P1 u1
  have HU := Lib.hid hU
  clear hU
  obtain ⟨un, us⟩ := u1
  dsimp only at un us
  rw [q0g] at un
  go_wp2_with fail
  refine (P1 _).mono ?_
  rintro e w1 ⟨rfl, hb1⟩
  have K1 := (Blk.new w 28 #[.string (⟨#[]⟩ : ByteArray), .int .u64 0, .int .i64 0, .string (⟨#[]⟩ : ByteArray)]).below hb1 (by simp)
  have B1 := q0d ((Below.refl w.heap.size w).alloc (Nat.le_refl _) _) hb1
  clear P1 hb1
  by_cases c1 : e1 = 0
  ·subst c1
   by_cases c2 : last.size < sh
   ·have t2 : decide ((last.size : Int) < (sh : Int)) = true := decide_eq_true (by omega)
    go_wp2_with fail
    go_step3
    exact And.intro rfl ⟨⟨_, _, _, _, _, _, _, _, _, _, _, _, _, _, _, _, _, _, _, _, _, _, _, _, _, _, _, _, _, _, _, _, _, _, _, _, _, _, _, _, _, _, _, _, _, _, _, _, _, _, _, _, _, _, _, _, _, _, _, _, _, _, _, _, _, _, _, _, _, _, _, _, _, _, _, _, _, _, _, _, _, _, _, _, _, _, _, _, _, _, _, _, _, _, _, _, rfl⟩, ⟨_, _, _, _, K1⟩, Lib.hid (PBlock.read_a HU.out (.inr (by rw [q0g]; exact c2))), B1⟩
   ·have t2 : decide ((last.size : Int) < (sh : Int)) = false := decide_eq_false (by omega)
    go_wp2_with fail
    have P2 := field_any (s.extract n1 s.size) (by rw [ByteArray.size_extract]; omega) 520 (by omega)
    rw [L_drop] at P2
    obtain ⟨⟨K, m1, e2⟩, hF⟩ : ∃ x, PCode.field ((L s).drop n1) 520 = x := ⟨_, rfl⟩
    rw [hF] at P2
    refine (P2 _).mono ?_
    rintro e w2 ⟨rfl, hb2⟩
    have K2 := K1.below hb2 K1.lt
    have B2 := q0d B1 hb2
    clear P2 hb2 K1 B1
    by_cases c3 : e2 = 0
    ·subst c3
     obtain ⟨-, g1, g2, g3⟩ := PCode.field_ok hF
     rw [List.length_drop, q0g] at g2
     have HF := Lib.hid hF
     clear hF
     have zK : (B K).size ≤ 520 := by rw [q0n]; omega
     have zE : (last.extract 0 sh).size = sh := by rw [ByteArray.size_extract]; omega
     have hkey : L (last.extract 0 sh ++ B K) = (L last).take sh ++ K := by rw [q0t, L_take, L_B]
     have HKEY := Lib.hid hkey
     have ho1 : (9223372036854775807 < (last.extract 0 sh).size + (B K).size) = False := eq_false (by omega)
     clear hkey zE
     have k0 := (K2.cell 0).trans rfl
     have f0 := K2.frozen 0
     have t4 : decide ((sh : Int) ≤ (last.size : Int)) = true := decide_eq_true (by omega)
     generalize B K = bk at *
     go_wp2_with fail
     have K3 := K2.set_ 0 (.string (last.extract 0 sh ++ bk))
     have B3 := B2.setCell (p := ⟨w.heap.size, 0, none⟩) (Nat.le_refl _) (.string (last.extract 0 sh ++ bk))
     clear K2 B2 k0 f0
     generalize World.setCell w2 _ _ = w3 at K3 B3 ⊢
     obtain ⟨N2, hN2⟩ : ∃ N2, n1 + m1 = N2 := ⟨_, rfl⟩
     rw [hN2, show ((n1 : Int) + (m1 : Int)) = (N2 : Int) by omega]
     have P3 : ∀ w : World, Calls Try.prog 68 #[.string (s.extract N2 s.size)] w fun e w' => e = .returned (.tuple #[.int .u64 ((PCode.uint (L (s.extract N2 s.size))).1 : Int), .int .i64 ((PCode.uint (L (s.extract N2 s.size))).2.1 : Int), .int .i64 ((PCode.uint (L (s.extract N2 s.size))).2.2 : Int)]) ∧ Below w.heap.size w w' := CodeW.uint_any (s.extract N2 s.size) (by rw [ByteArray.size_extract]; omega)
     rw [L_drop] at P3
     have u3 := uint_len ((L s).drop N2)
     obtain ⟨⟨q, m2, e3⟩, hV⟩ : ∃ x, PCode.uint ((L s).drop N2) = x := ⟨_, rfl⟩
     rw [hV] at P3 u3
     obtain ⟨um, uq⟩ := u3
     dsimp only at um uq
     rw [List.length_drop, q0g] at um
     rw [← hN2] at hV
     have HV := Lib.hid hV
     clear hV
     refine (P3 _).mono ?_
     rintro e w4 ⟨rfl, hb4⟩
     have K4 := K3.below hb4 K3.lt
     have B4 := q0d B3 hb4
     clear P3 hb4 K3 B3
     have k0 := (K4.cell 0).trans rfl
     have k1 := (K4.cell 1).trans rfl
     have k2 := (K4.cell 2).trans rfl
     have k3 := (K4.cell 3).trans rfl
     have f0 := K4.frozen 0
     have f1 := K4.frozen 1
     have f2 := K4.frozen 2
     have f3 := K4.frozen 3
     have hN2le : N2 ≤ s.size := by omega
     have hm2le : N2 + m2 ≤ s.size := by omega
     have HN2 := Lib.hid hN2
     clear hN2
     have K5 := K4.set_ 1 (.int .u64 (q : Int))
     have B5 := B4.setCell (p := ⟨w.heap.size, 1, none⟩) (Nat.le_refl _) (.int .u64 (q : Int))
     have KK5 := q04.mk K5
     clear K4 K5
     by_cases c5 : e3 = 0
     ·subst c5
      by_cases c6 : N2 + m2 = s.size
      ·have t6 : ((N2 : Int) + (m2 : Int) == (s.size : Int)) = true := by simp; omega
       go_wp2_with fail
       go_step3
       exact And.intro rfl ⟨⟨_, _, _, _, _, _, _, _, _, _, _, _, _, _, _, _, _, _, _, _, _, _, _, _, _, _, _, _, _, _, _, _, _, _, _, _, _, _, _, _, _, _, _, _, _, _, _, _, _, _, _, _, _, _, _, _, _, _, _, _, _, _, _, _, _, _, _, _, _, _, _, _, _, _, _, _, _, _, _, _, _, _, _, _, _, _, _, _, _, _, _, _, _, _, _, _, rfl⟩, ⟨_, _, _, _, KK5.out⟩, Lib.hid (PBlock.read_c HU.out (by rw [q0g]; omega) HF.out HV.out (.inr (by have := HN2.out; rw [q0g]; omega))), B5⟩
      ·have t6 : ((N2 : Int) + (m2 : Int) == (s.size : Int)) = false := by simp; omega
       obtain ⟨c, hcv⟩ : ∃ c, (L s).getD (N2 + m2) 0 = c := ⟨_, rfl⟩
       obtain ⟨bv, hbv⟩ : ∃ bv, c.toNat = bv := ⟨_, rfl⟩
       have hc256 := c.toNat_lt
       have hbx : ∀ h : N2 + m2 < s.size, ((s[N2 + m2]'h).toNat : Int) = (bv : Int) := fun h => by
        rw [← hbv, ← hcv, List.getD_eq_getElem?_getD, List.getElem?_eq_getElem (by rw [q0g]; exact h)]; rfl
       rw [hbv] at hc256
       have HCV := Lib.hid hcv
       have HBV := Lib.hid hbv
       clear hcv hbv
       have hsum : N2 + (m2 + 1) ≤ s.size := by omega
       by_cases c7 : bv = 1
       ·have t7 : ((bv : Int) == 1) = true := by simp [c7]
        have H7 := Lib.hid c7
        clear c7
        go_wp2_with fail
        have K6 := KK5.out.set_ 2 (.int .i64 (bv : Int))
        have B6 := B5.setCell (p := ⟨w.heap.size, 2, none⟩) (Nat.le_refl _) (.int .i64 (bv : Int))
        clear KK5 B5 B4 k0 k1 k2 k3 f0 f1 f2 f3
        generalize World.setCell (_ : World) _ _ = w5 at K6 B6 ⊢
        have P5 := field_any (s.extract (N2 + (m2 + 1)) s.size) (by rw [ByteArray.size_extract]; omega) 2048 (by omega)
        rw [L_drop] at P5
        obtain ⟨⟨V, k, e4⟩, hG⟩ : ∃ x, PCode.field ((L s).drop (N2 + (m2 + 1))) 2048 = x := ⟨_, rfl⟩
        rw [hG] at P5
        refine (P5 _).mono ?_
        rintro e w6 ⟨rfl, hb6⟩
        have K7 := K6.below hb6 K6.lt
        have B7 := q0d B6 hb6
        clear P5 hb6 K6 B6
        have hG2 : PCode.field ((L s).drop (n1 + m1 + m2 + 1)) 2048 = (V, k, e4) := by rw [HN2.out]; exact hG
        have HC : (L s).getD (n1 + m1 + m2) 0 = 1 := by rw [HN2.out, HCV.out]; exact UInt8.toNat_inj.mp (by rw [HBV.out, H7.out]; rfl)
        by_cases c8 : e4 = 0
        ·subst c8
         have g4 := (PCode.field_ok hG).2.2.1
         rw [List.length_drop, q0g] at g4
         have hrd := PBlock.read_f HU.out (show sh ≤ (L last).length by rw [q0g]; omega) HF.out HV.out (show n1 + m1 + m2 ≠ (L s).length by have := HN2.out; rw [q0g]; omega) HC hG2
         have HRD := Lib.hid hrd
         clear hG hG2 HC hrd
         have k0 := (K7.cell 0).trans rfl
         have k1 := (K7.cell 1).trans rfl
         have k2 := (K7.cell 2).trans rfl
         have k3 := (K7.cell 3).trans rfl
         have f0 := K7.frozen 0
         have f1 := K7.frozen 1
         have f2 := K7.frozen 2
         have f3 := K7.frozen 3
         go_wp2_with fail
         have K8 := ((((K7.set_ 3 (.string (B V))).set_ 0 (.string (last.extract 0 sh ++ bk))).set_ 1 (.int .u64 (q : Int))).set_ 2 (.int .i64 (bv : Int))).set_ 3 (.string (B V))
         have B8 := ((((B7.setCell (p := ⟨w.heap.size, 3, none⟩) (Nat.le_refl _) (.string (B V))).setCell (p := ⟨w.heap.size, 0, none⟩) (Nat.le_refl _) (.string (last.extract 0 sh ++ bk))).setCell (p := ⟨w.heap.size, 1, none⟩) (Nat.le_refl _) (.int .u64 (q : Int))).setCell (p := ⟨w.heap.size, 2, none⟩) (Nat.le_refl _) (.int .i64 (bv : Int))).setCell (p := ⟨w.heap.size, 3, none⟩) (Nat.le_refl _) (.string (B V))
         clear K7 B7 k0 k1 k2 k3 f0 f1 f2 f3
         generalize World.setCell (_ : World) _ _ = W8 at K8 B8 ⊢
         simp only [Exit.jump]
         refine bodyPost_ret (q1e rfl _ _ w.heap.size 28 #[.string (last.extract 0 sh ++ bk), .int .u64 (q : Int), .int .i64 (bv : Int), .string (B V)] (0, 0) _ rfl K8 Try.underlying28 rfl infoRow) rfl ?_
         rw [HRD.out]
         refine ⟨congrArg (fun x => Ending.returned (.tuple x)) ?_, B8⟩
         have hk1 : B ((L last).take sh ++ K) = last.extract 0 sh ++ bk := L_inj (by rw [L_B]; exact HKEY.out.symm)
         have hn1 : ((N2 : Int) + ((m2 : Int) + 1) + (k : Int)) = ((n1 + m1 + m2 + 1 + k : Nat) : Int) := by have := HN2.out; omega
         have hb1 : (bv : Int) = 1 := by rw [H7.out]; rfl
         simp only [rowV, readR, readN, rowB, hk1, ← hn1, ← hb1]
         rfl
        ·have t8 : ((e4 : Int) != 0) = true := by simp [c8]
         go_wp2_with fail
         go_step3
         exact And.intro rfl ⟨⟨_, _, _, _, _, _, _, _, _, _, _, _, _, _, _, _, _, _, _, _, _, _, _, _, _, _, _, _, _, _, _, _, _, _, _, _, _, _, _, _, _, _, _, _, _, _, _, _, _, _, _, _, _, _, _, _, _, _, _, _, _, _, _, _, _, _, _, _, _, _, _, _, _, _, _, _, _, _, _, _, _, _, _, _, _, _, _, _, _, _, _, _, _, _, _, _, rfl⟩, ⟨_, _, _, _, K7⟩, Lib.hid (PBlock.read_e HU.out (by rw [q0g]; omega) HF.out HV.out (by have := HN2.out; rw [q0g]; omega) HC hG2 c8), B7⟩
       ·have t7 : ((bv : Int) == 1) = false := by simp; omega
        have H7 := Lib.hid c7
        clear c7
        go_wp2_with fail
        have K8 := ((((KK5.out.set_ 2 (.int .i64 (bv : Int))).set_ 0 (.string (last.extract 0 sh ++ bk))).set_ 1 (.int .u64 (q : Int))).set_ 2 (.int .i64 (bv : Int))).set_ 3 (.string (⟨#[]⟩ : ByteArray))
        have B8 := ((((B5.setCell (p := ⟨w.heap.size, 2, none⟩) (Nat.le_refl _) (.int .i64 (bv : Int))).setCell (p := ⟨w.heap.size, 0, none⟩) (Nat.le_refl _) (.string (last.extract 0 sh ++ bk))).setCell (p := ⟨w.heap.size, 1, none⟩) (Nat.le_refl _) (.int .u64 (q : Int))).setCell (p := ⟨w.heap.size, 2, none⟩) (Nat.le_refl _) (.int .i64 (bv : Int))).setCell (p := ⟨w.heap.size, 3, none⟩) (Nat.le_refl _) (.string (⟨#[]⟩ : ByteArray))
        clear KK5 B5 B4 k0 k1 k2 k3 f0 f1 f2 f3
        generalize World.setCell (_ : World) _ _ = W8 at K8 B8 ⊢
        simp only [Exit.jump]
        refine bodyPost_ret (q1e rfl _ _ w.heap.size 28 #[.string (last.extract 0 sh ++ bk), .int .u64 (q : Int), .int .i64 (bv : Int), .string (⟨#[]⟩ : ByteArray)] (0, 0) _ rfl K8 Try.underlying28 rfl infoRow) rfl ?_
        have hrd := PBlock.read_d HU.out (show sh ≤ (L last).length by rw [q0g]; omega) HF.out HV.out (show n1 + m1 + m2 ≠ (L s).length by have := HN2.out; rw [q0g]; omega) (by rw [HN2.out, HCV.out]; intro e; rw [e] at HBV; exact H7.out (HBV.out.symm.trans rfl))
        rw [hrd]
        refine ⟨congrArg (fun x => Ending.returned (.tuple x)) ?_, B8⟩
        have hk1 : B ((L last).take sh ++ K) = last.extract 0 sh ++ bk := L_inj (by rw [L_B]; exact HKEY.out.symm)
        have hn1 : ((N2 : Int) + ((m2 : Int) + 1)) = ((n1 + m1 + m2 + 1 : Nat) : Int) := by have := HN2.out; omega
        have hb1 : (bv : Int) = (((L s).getD (n1 + m1 + m2) 0).toNat : Int) := by rw [HN2.out, HCV.out, HBV.out]
        simp only [rowV, readR, readN, rowB, hk1, ← hn1, ← hb1]
        rfl
     ·have t5 : ((e3 : Int) != 0) = true := by simp [c5]
      go_wp2_with fail
      go_step3
      exact And.intro rfl ⟨⟨_, _, _, _, _, _, _, _, _, _, _, _, _, _, _, _, _, _, _, _, _, _, _, _, _, _, _, _, _, _, _, _, _, _, _, _, _, _, _, _, _, _, _, _, _, _, _, _, _, _, _, _, _, _, _, _, _, _, _, _, _, _, _, _, _, _, _, _, _, _, _, _, _, _, _, _, _, _, _, _, _, _, _, _, _, _, _, _, _, _, _, _, _, _, _, _, rfl⟩, ⟨_, _, _, _, KK5.out⟩, Lib.hid (PBlock.read_c HU.out (by rw [q0g]; omega) HF.out HV.out (.inl c5)), B5⟩
    ·have t3 : ((e2 : Int) != 0) = true := by simp [c3]
     go_wp2_with fail
     go_step3
     exact And.intro rfl ⟨⟨_, _, _, _, _, _, _, _, _, _, _, _, _, _, _, _, _, _, _, _, _, _, _, _, _, _, _, _, _, _, _, _, _, _, _, _, _, _, _, _, _, _, _, _, _, _, _, _, _, _, _, _, _, _, _, _, _, _, _, _, _, _, _, _, _, _, _, _, _, _, _, _, _, _, _, _, _, _, _, _, _, _, _, _, _, _, _, _, _, _, _, _, _, _, _, _, rfl⟩, ⟨_, _, _, _, K2⟩, Lib.hid (PBlock.read_b HU.out (by rw [q0g]; omega) hF c3), B2⟩
  ·have t1 : ((e1 : Int) != 0) = true := by simp [c1]
   go_wp2_with fail
   go_step3
   exact And.intro rfl ⟨⟨_, _, _, _, _, _, _, _, _, _, _, _, _, _, _, _, _, _, _, _, _, _, _, _, _, _, _, _, _, _, _, _, _, _, _, _, _, _, _, _, _, _, _, _, _, _, _, _, _, _, _, _, _, _, _, _, _, _, _, _, _, _, _, _, _, _, _, _, _, _, _, _, _, _, _, _, _, _, _, _, _, _, _, _, _, _, _, _, _, _, _, _, _, _, _, _, rfl⟩, ⟨_, _, _, _, K1⟩, Lib.hid (PBlock.read_a HU.out (.inl c1)), B1⟩
end Go.Proofs.Ytaigmemmgjlhgaa.Block
-- GBlockR
namespace Go.Proofs.Ytaigmemmgjlhgaa.Print
open Go.RowKit Txt Block Go.Proofs.YtaigmemmgjlhgaaW.PrintWords
def block_read.f (a0 a1 : ByteArray) : Option (ByteArray × Int × Int × ByteArray × Int) :=
 if a0.size ≤ 1000000 ∧ a1.size ≤ 1000000 then some ((readR (PBlock.read (L a0) (L a1))).f0, (readR (PBlock.read (L a0) (L a1))).f1, (readR (PBlock.read (L a0) (L a1))).f2, (readR (PBlock.read (L a0) (L a1))).f3, (readN (PBlock.read (L a0) (L a1)) : Int)) else none
theorem block_read.eq (a0 a1 : ByteArray) (h : a0.size ≤ 1000000 ∧ a1.size ≤ 1000000) : block_read.f a0 a1 = some ((readR (PBlock.read (L a0) (L a1))).f0, (readR (PBlock.read (L a0) (L a1))).f1, (readR (PBlock.read (L a0) (L a1))).f2, (readR (PBlock.read (L a0) (L a1))).f3, (readN (PBlock.read (L a0) (L a1)) : Int)) := if_pos h
theorem block_read.calls (a0 a1 : ByteArray) (r1 : ByteArray) (r2 r3 : Int) (r4 : ByteArray) (r5 : Int) (w : World) (h : block_read.f a0 a1 = some (r1, r2, r3, r4, r5)) :
  Calls Try.prog 65 #[.string a0, .string a1] w fun e w' => e = .returned (.tuple #[.agg #[.string r1, .int .u64 r2, .int .i64 r3, .string r4], .int .i64 r5]) ∧ Below w.heap.size w w' := by
 unfold block_read.f at h
 split at h
 ·rename_i hf
  simp only [Option.some.injEq, Prod.mk.injEq] at h
  obtain ⟨rfl, rfl, rfl, rfl, rfl⟩ := h
  exact read_any a0 a1 hf.1 hf.2 w
 ·cases h
end Go.Proofs.Ytaigmemmgjlhgaa.Print
-- Print12
namespace Go.Proofs.Ytaigmemmgjlhgaa.Print
open Go.RowKit Go.Proofs.YtaigmemmgjlhgaaW.PrintWords Go.Proofs.YtaigmemmgjlhgaaW.PrintLast Go.Proofs.YtaigmemmgjlhgaaW.PrintMore
attribute [local go_sem] q1d q1b q1t q1s q19 q17 q1c q1a
set_option linter.unusedVariables false
set_option linter.unusedSimpArgs false
mutual
def table_right.j0 : Nat → List (S28) → Bool → Option (Int)
 | 0, _, _ => none
 | k + 1, x0, x41 => if x41 = true then (some 2) else (table_right.l0 k 0 x0 (x0.length : Int) 0)
def table_right.l0 : Nat → Int → List (S28) → Int → Int → Option (Int)
 | 0, _, _, _, _ => none
 | k + 1, x5, x42, x43, x44 => if x44 < x43 then (if 0 ≤ x44 then (if x44 < (x42.length : Int) then ((block_Check.f k ((q0i x42 x44).f0) ((q0i x42 x44).f1) ((q0i x42 x44).f2) ((q0i x42 x44).f3)).bind fun t184 => (if t184 = 2 then (some t184) else (if t184 = 0 then (table_right.l0 k x5 x42 x43 (wrap64 (x44 + 1))) else (table_right.l0 k t184 x42 x43 (wrap64 (x44 + 1)))))) else (none)) else (none)) else (some x5)
end
def table_right.f (k : Nat) (l0 : List (S28)) (a1_0 : Int) (a1_1 : Int) (a1_2 : Int) : Option (Int) := if a1_0 < 64 then (table_right.j0 k l0 true) else (if a1_0 > 16384 then (table_right.j0 k l0 true) else (if a1_1 < 1 then (table_right.j0 k l0 true) else (if a1_1 > 64 then (table_right.j0 k l0 true) else (if a1_2 < 1 then (table_right.j0 k l0 true) else (if a1_2 > 32 then (table_right.j0 k l0 true) else ((block_Order.f k l0).bind fun t181 => (table_right.j0 k l0 (!t181))))))))
theorem table_right.mono_l : ∀ k, (∀ y0 y1, LeO (table_right.j0 k y0 y1) (table_right.j0 (k + 1) y0 y1)) ∧ (∀ y0 y1 y2 y3, LeO (table_right.l0 k y0 y1 y2 y3) (table_right.l0 (k + 1) y0 y1 y2 y3))
 | 0 => ⟨fun _ _ r h => by simp [table_right.j0] at h, fun _ _ _ _ r h => by simp [table_right.l0] at h⟩
 | k + 1 => by
  obtain ⟨ih0, ih1⟩ := table_right.mono_l k
  refine ⟨?_, ?_⟩
  ·intro y0 y1
   unfold table_right.j0
   repeat' first
   | (with_reducible exact ih0 _ _)
   | (with_reducible exact ih1 _ _ _ _)
   | (with_reducible exact block_Check.mono _ _ _ _ _)
   | (with_reducible exact block_Order.mono _ _)
   | (with_reducible exact LeO.refl _)
   | (with_reducible exact LeO.none _)
   | (with_reducible refine LeO.ite ?_ ?_)
   | (with_reducible refine LeO.bind ?_ (fun _ => ?_))
   | exact ih0 _ _
   | exact ih1 _ _ _ _
   | exact block_Check.mono _ _ _ _ _
   | exact block_Order.mono _ _
   | exact LeO.none _
   | refine LeO.ite ?_ ?_
   | refine LeO.bind ?_ (fun _ => ?_)
  ·intro y0 y1 y2 y3
   unfold table_right.l0
   repeat' first
   | (with_reducible exact ih0 _ _)
   | (with_reducible exact ih1 _ _ _ _)
   | (with_reducible exact block_Check.mono _ _ _ _ _)
   | (with_reducible exact block_Order.mono _ _)
   | (with_reducible exact LeO.refl _)
   | (with_reducible exact LeO.none _)
   | (with_reducible refine LeO.ite ?_ ?_)
   | (with_reducible refine LeO.bind ?_ (fun _ => ?_))
   | exact ih0 _ _
   | exact ih1 _ _ _ _
   | exact block_Check.mono _ _ _ _ _
   | exact block_Order.mono _ _
   | exact LeO.none _
   | refine LeO.ite ?_ ?_
   | refine LeO.bind ?_ (fun _ => ?_)
theorem table_right.mono : ∀ a0 a1 a2 a3 k, LeO (table_right.f k a0 a1 a2 a3) (table_right.f (k + 1) a0 a1 a2 a3) := by
 intro a0 a1 a2 a3 k
 obtain ⟨ih0, ih1⟩ := table_right.mono_l k
 unfold table_right.f
 repeat' first
   | (with_reducible exact ih0 _ _)
   | (with_reducible exact ih1 _ _ _ _)
   | (with_reducible exact block_Check.mono _ _ _ _ _)
   | (with_reducible exact block_Order.mono _ _)
   | (with_reducible exact LeO.refl _)
   | (with_reducible exact LeO.none _)
   | (with_reducible refine LeO.ite ?_ ?_)
   | (with_reducible refine LeO.bind ?_ (fun _ => ?_))
   | exact ih0 _ _
   | exact ih1 _ _ _ _
   | exact block_Check.mono _ _ _ _ _
   | exact block_Order.mono _ _
   | exact LeO.none _
   | refine LeO.ite ?_ ?_
   | refine LeO.bind ?_ (fun _ => ?_)
set_option maxHeartbeats 8000000 in
set_option maxRecDepth 100000 in
theorem table_right.calls (k : Nat) (A0 : Option Addr) (c0 : Nat) (l0 : List (S28)) (a1_0 : Int) (a1_1 : Int) (a1_2 : Int) (r : Int) (w : World) (hr0 : Kd.C k28 w A0 l0.length l0) (hc0 : l0.length ≤ c0) (h : table_right.f k l0 a1_0 a1_1 a1_2 = some r) :
  Calls Try.prog 31 #[.slice A0 l0.length c0, .agg #[.int .i64 a1_0, .int .i64 a1_1, .int .i64 a1_2]] w fun e w' => e = .returned (.int .i64 r) ∧ Below w.heap.size w w' := by
 have hu41 := Try.underlying41
 have hu28 := Try.underlying28
 have HR0 := q04.mk hr0
 have HC0 := q04.mk hc0
 clear hr0 hc0
 have HB := q04.mk (Below.refl w.heap.size w)
 have H : (if a1_0 < 64 then (table_right.j0 k l0 true) else (if a1_0 > 16384 then (table_right.j0 k l0 true) else (if a1_1 < 1 then (table_right.j0 k l0 true) else (if a1_1 > 64 then (table_right.j0 k l0 true) else (if a1_2 < 1 then (table_right.j0 k l0 true) else (if a1_2 > 32 then (table_right.j0 k l0 true) else ((block_Order.f k l0).bind fun t181 => (table_right.j0 k l0 (!t181))))))))) = some r := h
 clear h
 have HC3 := q04.mk H
 clear H
 go_enter Try.func31, Try.ntmps31
 go_upto_region 1 with (first | ((with_reducible refine q0q (N := 3) rfl ?_); refine q0r ?hg (N := 3) ?hd (cs := #[.int .i64 a1_0, .int .i64 a1_1, .int .i64 a1_2]) (t := 41) ?hr ?_; (case hd => rfl); (case hg => rfl); (case hr => first | (go_simp; done) | (go_simp; rfl)); intro gb180 hg w4 hbox hb; have n0_ := q04.mk (q0a (by repeat (first | (with_reducible first | exact HB.out | apply q02 | apply q00 | apply q01) | exact HB.out)) hb); have n1_ := q04.mk (hbox); have n2_ := q04.mk ((by rw [hg]; exact (q0e (by repeat (first | (with_reducible first | exact HB.out | apply q02 | apply q00 | apply q01) | exact HB.out))) : w.heap.size ≤ gb180)); have n3_ := q04.mk ((by rw [hg]; exact (q0e (by repeat (first | (with_reducible first | exact HB.out | apply q02 | apply q00 | apply q01) | exact HB.out))) : w.heap.size ≤ gb180)); clear HB; have HB := n0_; have BK180 := n1_; have GW180 := n2_; have GE180 := n3_; clear n0_ n1_ n2_ n3_; clear hb hbox hg))
 (try simp only [Act.put, List.setIfInBounds_toArray, List.set_cons_zero, List.set_cons_succ])
 go_cut [41] (fun v41 wc => ∃ (kq : Nat) (x41_2 : Bool), v41 = .bool x41_2 ∧ q04 (table_right.j0 kq l0 x41_2 = some r) ∧ q04 (kq ≤ k) ∧ q04 (wc.heap[gb180]? = some (.cells #[.int .i64 a1_0, .int .i64 a1_1, .int .i64 a1_2] 41 (0, 0))) ∧ q04 (Below w.heap.size w wc))
 case first =>
  have H := HC3.out
  clear HC3
  by_cases c5 : a1_0 < 64
  ·rw [if_pos c5] at H
   have c5b0 : decide (a1_0 < 64) = true := decide_eq_true c5
   clear c5
   (first | rw [c5b0] | (simp only [i64_w, i32_w]; rw [c5b0]) | skip)
   have H' := q04.mk H
   clear H
   have hcz6_0 : w4.cell? ⟨gb180, 0, none⟩ = some (.int .i64 a1_0) := (q03 BK180.out 0).trans rfl
   have hcz6_1 : w4.cell? ⟨gb180, 1, none⟩ = some (.int .i64 a1_1) := (q03 BK180.out 1).trans rfl
   have hcz6_2 : w4.cell? ⟨gb180, 2, none⟩ = some (.int .i64 a1_2) := (q03 BK180.out 2).trans rfl
   have hfz6_0 := q05 BK180.out 0
   have hfz6_1 := q05 BK180.out 1
   have hfz6_2 := q05 BK180.out 2
   go_wp2
   go_meet
   case rel => exact ⟨_, (true), (by first | rfl | (simp; done) | (simp [*]; done)), H', ⟨by first | omega | exact Nat.le_refl _⟩, ⟨by (with_reducible repeat (first | refine q07 ?_ _ | refine q08 ?_ | refine q06 ?_ _)); exact BK180.out⟩, ⟨by repeat (first | (with_reducible first | exact HB.out | apply q02 | apply q00 | apply q01 | refine q09 ?_ GE180.out) | exact HB.out)⟩⟩
  ·rw [if_neg c5] at H
   have c5b0 : decide (a1_0 < 64) = false := decide_eq_false c5
   clear c5
   (first | rw [c5b0] | (simp only [i64_w, i32_w]; rw [c5b0]) | skip)
   by_cases c7 : a1_0 > 16384
   ·rw [if_pos c7] at H
    have c7b0 : decide (16384 < a1_0) = true := decide_eq_true c7
    clear c7
    have H' := q04.mk H
    clear H
    have hcz8_0 : w4.cell? ⟨gb180, 0, none⟩ = some (.int .i64 a1_0) := (q03 BK180.out 0).trans rfl
    have hcz8_1 : w4.cell? ⟨gb180, 1, none⟩ = some (.int .i64 a1_1) := (q03 BK180.out 1).trans rfl
    have hcz8_2 : w4.cell? ⟨gb180, 2, none⟩ = some (.int .i64 a1_2) := (q03 BK180.out 2).trans rfl
    have hfz8_0 := q05 BK180.out 0
    have hfz8_1 := q05 BK180.out 1
    have hfz8_2 := q05 BK180.out 2
    go_wp2
    go_meet
    case rel => exact ⟨_, (true), (by first | rfl | (simp; done) | (simp [*]; done)), H', ⟨by first | omega | exact Nat.le_refl _⟩, ⟨by (with_reducible repeat (first | refine q07 ?_ _ | refine q08 ?_ | refine q06 ?_ _)); exact BK180.out⟩, ⟨by repeat (first | (with_reducible first | exact HB.out | apply q02 | apply q00 | apply q01 | refine q09 ?_ GE180.out) | exact HB.out)⟩⟩
   ·rw [if_neg c7] at H
    have c7b0 : decide (16384 < a1_0) = false := decide_eq_false c7
    clear c7
    by_cases c9 : a1_1 < 1
    ·rw [if_pos c9] at H
     have c9b0 : decide (a1_1 < 1) = true := decide_eq_true c9
     clear c9
     have H' := q04.mk H
     clear H
     have hcz10_0 : w4.cell? ⟨gb180, 0, none⟩ = some (.int .i64 a1_0) := (q03 BK180.out 0).trans rfl
     have hcz10_1 : w4.cell? ⟨gb180, 1, none⟩ = some (.int .i64 a1_1) := (q03 BK180.out 1).trans rfl
     have hcz10_2 : w4.cell? ⟨gb180, 2, none⟩ = some (.int .i64 a1_2) := (q03 BK180.out 2).trans rfl
     have hfz10_0 := q05 BK180.out 0
     have hfz10_1 := q05 BK180.out 1
     have hfz10_2 := q05 BK180.out 2
     go_wp2
     go_meet
     case rel => exact ⟨_, (true), (by first | rfl | (simp; done) | (simp [*]; done)), H', ⟨by first | omega | exact Nat.le_refl _⟩, ⟨by (with_reducible repeat (first | refine q07 ?_ _ | refine q08 ?_ | refine q06 ?_ _)); exact BK180.out⟩, ⟨by repeat (first | (with_reducible first | exact HB.out | apply q02 | apply q00 | apply q01 | refine q09 ?_ GE180.out) | exact HB.out)⟩⟩
    ·rw [if_neg c9] at H
     have c9b0 : decide (a1_1 < 1) = false := decide_eq_false c9
     clear c9
     by_cases c11 : a1_1 > 64
     ·rw [if_pos c11] at H
      have c11b0 : decide (64 < a1_1) = true := decide_eq_true c11
      clear c11
      have H' := q04.mk H
      clear H
      have hcz12_0 : w4.cell? ⟨gb180, 0, none⟩ = some (.int .i64 a1_0) := (q03 BK180.out 0).trans rfl
      have hcz12_1 : w4.cell? ⟨gb180, 1, none⟩ = some (.int .i64 a1_1) := (q03 BK180.out 1).trans rfl
      have hcz12_2 : w4.cell? ⟨gb180, 2, none⟩ = some (.int .i64 a1_2) := (q03 BK180.out 2).trans rfl
      have hfz12_0 := q05 BK180.out 0
      have hfz12_1 := q05 BK180.out 1
      have hfz12_2 := q05 BK180.out 2
      go_wp2
      go_meet
      case rel => exact ⟨_, (true), (by first | rfl | (simp; done) | (simp [*]; done)), H', ⟨by first | omega | exact Nat.le_refl _⟩, ⟨by (with_reducible repeat (first | refine q07 ?_ _ | refine q08 ?_ | refine q06 ?_ _)); exact BK180.out⟩, ⟨by repeat (first | (with_reducible first | exact HB.out | apply q02 | apply q00 | apply q01 | refine q09 ?_ GE180.out) | exact HB.out)⟩⟩
     ·rw [if_neg c11] at H
      have c11b0 : decide (64 < a1_1) = false := decide_eq_false c11
      clear c11
      by_cases c13 : a1_2 < 1
      ·rw [if_pos c13] at H
       have c13b0 : decide (a1_2 < 1) = true := decide_eq_true c13
       clear c13
       have H' := q04.mk H
       clear H
       have hcz14_0 : w4.cell? ⟨gb180, 0, none⟩ = some (.int .i64 a1_0) := (q03 BK180.out 0).trans rfl
       have hcz14_1 : w4.cell? ⟨gb180, 1, none⟩ = some (.int .i64 a1_1) := (q03 BK180.out 1).trans rfl
       have hcz14_2 : w4.cell? ⟨gb180, 2, none⟩ = some (.int .i64 a1_2) := (q03 BK180.out 2).trans rfl
       have hfz14_0 := q05 BK180.out 0
       have hfz14_1 := q05 BK180.out 1
       have hfz14_2 := q05 BK180.out 2
       go_wp2
       go_meet
       case rel => exact ⟨_, (true), (by first | rfl | (simp; done) | (simp [*]; done)), H', ⟨by first | omega | exact Nat.le_refl _⟩, ⟨by (with_reducible repeat (first | refine q07 ?_ _ | refine q08 ?_ | refine q06 ?_ _)); exact BK180.out⟩, ⟨by repeat (first | (with_reducible first | exact HB.out | apply q02 | apply q00 | apply q01 | refine q09 ?_ GE180.out) | exact HB.out)⟩⟩
      ·rw [if_neg c13] at H
       have c13b0 : decide (a1_2 < 1) = false := decide_eq_false c13
       clear c13
       by_cases c15 : a1_2 > 32
       ·rw [if_pos c15] at H
        have c15b0 : decide (32 < a1_2) = true := decide_eq_true c15
        clear c15
        have H' := q04.mk H
        clear H
        have hcz16_0 : w4.cell? ⟨gb180, 0, none⟩ = some (.int .i64 a1_0) := (q03 BK180.out 0).trans rfl
        have hcz16_1 : w4.cell? ⟨gb180, 1, none⟩ = some (.int .i64 a1_1) := (q03 BK180.out 1).trans rfl
        have hcz16_2 : w4.cell? ⟨gb180, 2, none⟩ = some (.int .i64 a1_2) := (q03 BK180.out 2).trans rfl
        have hfz16_0 := q05 BK180.out 0
        have hfz16_1 := q05 BK180.out 1
        have hfz16_2 := q05 BK180.out 2
        go_wp2
        go_meet
        case rel => exact ⟨_, (true), (by first | rfl | (simp; done) | (simp [*]; done)), H', ⟨by first | omega | exact Nat.le_refl _⟩, ⟨by (with_reducible repeat (first | refine q07 ?_ _ | refine q08 ?_ | refine q06 ?_ _)); exact BK180.out⟩, ⟨by repeat (first | (with_reducible first | exact HB.out | apply q02 | apply q00 | apply q01 | refine q09 ?_ GE180.out) | exact HB.out)⟩⟩
       ·rw [if_neg c15] at H
        have c15b0 : decide (32 < a1_2) = false := decide_eq_false c15
        clear c15
        replace H := Option.bind_eq_some_iff.mp H
        obtain ⟨t181, A170, H⟩ := H
        replace H : (table_right.j0 k l0 (!t181)) = some r := H
        have A17 := q04.mk A170
        clear A170
        have H' := q04.mk H
        clear H
        have hcz18_0 : w4.cell? ⟨gb180, 0, none⟩ = some (.int .i64 a1_0) := (q03 BK180.out 0).trans rfl
        have hcz18_1 : w4.cell? ⟨gb180, 1, none⟩ = some (.int .i64 a1_1) := (q03 BK180.out 1).trans rfl
        have hcz18_2 : w4.cell? ⟨gb180, 2, none⟩ = some (.int .i64 a1_2) := (q03 BK180.out 2).trans rfl
        have hfz18_0 := q05 BK180.out 0
        have hfz18_1 := q05 BK180.out 1
        have hfz18_2 := q05 BK180.out 2
        go_wp2_with (first | (go_at_call 55; (with_reducible refine (block_Order.calls k _ _ l0 t181 _ ?side1 ?side2 A17.out).mono ?_); (case side1 => repeat (first | exact (Kd.C_below HR0.out HB.out) | (with_reducible refine Kd.C_alloc ?_ _) | (with_reducible refine Kd.C_drewN ?_ _) | (with_reducible refine Kd.C_drew ?_))); (case side2 => exact HC0.out); rintro e w19 ⟨rfl, hb⟩; have n0_ := q04.mk (q0f (g := gb180) (o := .cells #[.int .i64 a1_0, .int .i64 a1_1, .int .i64 a1_2] 41 (0, 0)) (by (with_reducible repeat (first | refine q07 ?_ _ | refine q08 ?_ | refine q06 ?_ _)); exact BK180.out) hb); have n1_ := q04.mk (q0a (by repeat (first | (with_reducible first | exact HB.out | apply q02 | apply q00 | apply q01 | refine q09 ?_ GE180.out) | exact HB.out)) hb); clear BK180; clear HB; have BK180 := n0_; have HB := n1_; clear n0_ n1_; (try clear hb); (try clear hb2); (try clear hk); (try clear hi)))
        go_meet
        case rel => exact ⟨_, (!t181), (by first | rfl | (simp; done) | (simp [*]; done)), H', ⟨by first | omega | exact Nat.le_refl _⟩, ⟨by (with_reducible repeat (first | refine q07 ?_ _ | refine q08 ?_ | refine q06 ?_ _)); exact BK180.out⟩, ⟨by repeat (first | (with_reducible first | exact HB.out | apply q02 | apply q00 | apply q01 | refine q09 ?_ GE180.out) | exact HB.out)⟩⟩
 case rest =>
  clear HC3
  try clear c1
  try clear p2
  try clear c3
  try clear c5
  try clear c5b0
  try clear c7
  try clear c7b0
  try clear c9
  try clear c9b0
  try clear c11
  try clear c11b0
  try clear c13
  try clear c13b0
  try clear c15
  try clear c15b0
  try clear hcz10_0
  try clear hcz10_1
  try clear hcz10_2
  try clear hcz12_0
  try clear hcz12_1
  try clear hcz12_2
  try clear hcz14_0
  try clear hcz14_1
  try clear hcz14_2
  try clear hcz16_0
  try clear hcz16_1
  try clear hcz16_2
  try clear hcz18_0
  try clear hcz18_1
  try clear hcz18_2
  try clear hcz6_0
  try clear hcz6_1
  try clear hcz6_2
  try clear hcz8_0
  try clear hcz8_1
  try clear hcz8_2
  try clear hfz10_0
  try clear hfz10_1
  try clear hfz10_2
  try clear hfz12_0
  try clear hfz12_1
  try clear hfz12_2
  try clear hfz14_0
  try clear hfz14_1
  try clear hfz14_2
  try clear hfz16_0
  try clear hfz16_1
  try clear hfz16_2
  try clear hfz18_0
  try clear hfz18_1
  try clear hfz18_2
  try clear hfz6_0
  try clear hfz6_1
  try clear hfz6_2
  try clear hfz8_0
  try clear hfz8_1
  try clear hfz8_2
  obtain ⟨kq, x41_2, rfl, HA, HJ2, BK180, HB⟩ := hcut
  cases kq with
  | zero => exact absurd HA.out (by simp [table_right.j0])
  | succ kj2 =>
   have H := HA.out
   clear HA
   simp only [table_right.j0] at H
   by_cases c20 : x41_2 = true
   ·subst c20
    have H1 : (some 2) = some r := by rw [if_pos rfl] at H; exact H
    clear H
    have H := H1
    clear H1
    obtain rfl := Option.some.inj H
    go_wp2
    go_ret
    exact ⟨by first | rfl | (simp [q0c, q0b] <;> rfl) | (simp [*, q0c, q0b] <;> rfl), by repeat (first | (with_reducible first | exact HB.out | apply q02 | apply q00 | apply q01 | refine q09 ?_ GE180.out) | exact HB.out)⟩
   ·replace c20 := Bool.eq_false_iff.mpr c20
    subst c20
    have H1 : (table_right.l0 kj2 0 l0 (l0.length : Int) 0) = some r := by rw [if_neg (show ¬ (false = true) by decide)] at H; exact H
    clear H
    have H := H1
    clear H1
    have H' := q04.mk H
    clear H
    go_wp2
    go_loopg [5, 44] kj2 (fun kq v5 v44 w' => ∃ (x5_2 : Int) (x44_2 : Int), v5 = .int .i64 x5_2 ∧ v44 = .int .i64 x44_2 ∧ q04 (table_right.l0 kq x5_2 l0 (l0.length : Int) x44_2 = some r) ∧ q04 (kq ≤ kj2) ∧ q04 (w'.heap[gb180]? = some (.cells #[.int .i64 a1_0, .int .i64 a1_1, .int .i64 a1_2] 41 (0, 0))) ∧ q04 (Below w.heap.size w w'))
    case atStart => exact ⟨(0), (0), (by first | rfl | (simp; done) | (simp [*]; done)), (by first | rfl | (simp; done) | (simp [*]; done)), H', ⟨Nat.le_refl _⟩, ⟨by (with_reducible repeat (first | refine q07 ?_ _ | refine q08 ?_ | refine q06 ?_ _)); exact BK180.out⟩, ⟨by repeat (first | (with_reducible first | exact HB.out | apply q02 | apply q00 | apply q01 | refine q09 ?_ GE180.out) | exact HB.out)⟩⟩
    case round =>
     clear H'
     try clear c1
     try clear c2
     try clear p2
     try clear c3
     try clear c5
     try clear c5b0
     try clear c7
     try clear c7b0
     try clear c9
     try clear c9b0
     try clear c11
     try clear c11b0
     try clear c13
     try clear c13b0
     try clear c15
     try clear c15b0
     try clear c20
     try clear hcz10_0
     try clear hcz10_1
     try clear hcz10_2
     try clear hcz12_0
     try clear hcz12_1
     try clear hcz12_2
     try clear hcz14_0
     try clear hcz14_1
     try clear hcz14_2
     try clear hcz16_0
     try clear hcz16_1
     try clear hcz16_2
     try clear hcz18_0
     try clear hcz18_1
     try clear hcz18_2
     try clear hcz6_0
     try clear hcz6_1
     try clear hcz6_2
     try clear hcz8_0
     try clear hcz8_1
     try clear hcz8_2
     try clear hfz10_0
     try clear hfz10_1
     try clear hfz10_2
     try clear hfz12_0
     try clear hfz12_1
     try clear hfz12_2
     try clear hfz14_0
     try clear hfz14_1
     try clear hfz14_2
     try clear hfz16_0
     try clear hfz16_1
     try clear hfz16_2
     try clear hfz18_0
     try clear hfz18_1
     try clear hfz18_2
     try clear hfz6_0
     try clear hfz6_1
     try clear hfz6_2
     try clear hfz8_0
     try clear hfz8_1
     try clear hfz8_2
     try clear p2
     obtain ⟨x5_2, x44_2, rfl, rfl, HA, HK2, BK180, HB⟩ := hrel
     cases gk with
     | zero => exact absurd HA.out (by simp [table_right.l0])
     | succ k2 =>
      have H := HA.out
      clear HA
      simp only [table_right.l0] at H
      by_cases c21 : x44_2 < (l0.length : Int)
      ·rw [if_pos c21] at H
       have c21b0 : decide (x44_2 < (l0.length : Int)) = true := decide_eq_true c21
       clear c21
       by_cases c22 : 0 ≤ x44_2
       ·rw [if_pos c22] at H
        have c22b0 : decide (0 ≤ x44_2) = true := decide_eq_true c22
        clear c22
        by_cases c23 : x44_2 < (l0.length : Int)
        ·rw [if_pos c23] at H
         have c23b0 : decide (x44_2 < (l0.length : Int)) = true := decide_eq_true c23
         clear c23
         replace H := Option.bind_eq_some_iff.mp H
         obtain ⟨t184, A240, H⟩ := H
         replace H : (if t184 = 2 then (some t184) else (if t184 = 0 then (table_right.l0 k2 x5_2 l0 (l0.length : Int) (wrap64 (x44_2 + 1))) else (table_right.l0 k2 t184 l0 (l0.length : Int) (wrap64 (x44_2 + 1))))) = some r := H
         have A24 := q04.mk A240
         clear A240
         by_cases c25 : t184 = 2
         ·rw [if_pos c25] at H
          have c25b0 : (t184 == 2) = true := beq_iff_eq.mpr c25
          have c25b1 : (t184 != 2) = false := bne_eq_false_iff_eq.mpr c25
          clear c25
          obtain rfl := Option.some.inj H
          have p182 : 0 ≤ (x44_2 : Int) := of_decide_eq_true (by first | (with_reducible assumption) | assumption)
          have q182 : x44_2 < (l0.length : Int) := of_decide_eq_true (by first | (with_reducible assumption) | assumption)
          obtain ⟨ad182, e182, hx182_0, hx182_1, hx182_2, hx182_3⟩ := q15 HR0.out x44_2 p182 q182
          cases e182
          replace hx182_0 := (HB.out.cell (World.block_lt_of_cell? w _ hx182_0)).trans hx182_0
          replace hx182_1 := (HB.out.cell (World.block_lt_of_cell? w _ hx182_1)).trans hx182_1
          replace hx182_2 := (HB.out.cell (World.block_lt_of_cell? w _ hx182_2)).trans hx182_2
          replace hx182_3 := (HB.out.cell (World.block_lt_of_cell? w _ hx182_3)).trans hx182_3
          replace p182 := eq_true p182
          replace q182 := eq_true q182
          go_wp2_with (first | ((with_reducible refine q0q (N := 7) rfl ?_); refine q0r ?hg (N := 7) ?hd (cs := #[.string (⟨#[]⟩ : ByteArray), .int .u64 0, .int .i64 0, .string (⟨#[]⟩ : ByteArray)]) (t := 28) ?hr ?_; (case hd => rfl); (case hg => rfl); (case hr => first | (go_simp; done) | (go_simp; rfl)); intro gb183 hg w26 hbox hb; have n0_ := q04.mk (q0f (g := gb180) (o := .cells #[.int .i64 a1_0, .int .i64 a1_1, .int .i64 a1_2] 41 (0, 0)) (by (with_reducible repeat (first | refine q07 ?_ _ | refine q08 ?_ | refine q06 ?_ _)); exact BK180.out) hb); have n1_ := q04.mk (q0a (by repeat (first | (with_reducible first | exact HB.out | apply q02 | apply q00 | apply q01 | refine q09 ?_ GE180.out) | exact HB.out)) hb); have n2_ := q04.mk (hbox); have n3_ := q04.mk ((by rw [hg]; exact (q0e (by repeat (first | (with_reducible first | exact HB.out | apply q02 | apply q00 | apply q01 | refine q09 ?_ GE180.out) | exact HB.out))) : w.heap.size ≤ gb183)); have n4_ := q04.mk ((by rw [hg]; exact (q0e (by repeat (first | (with_reducible first | exact HB.out | apply q02 | apply q00 | apply q01 | refine q09 ?_ GE180.out) | exact HB.out))) : w.heap.size ≤ gb183)); have n5_ := q04.mk ((by rw [hg]; exact Nat.ne_of_lt (q1g (g := gb180) (o := .cells #[.int .i64 a1_0, .int .i64 a1_1, .int .i64 a1_2] 41 (0, 0)) (by (with_reducible repeat (first | refine q07 ?_ _ | refine q08 ?_ | refine q06 ?_ _)); exact BK180.out)) : gb180 ≠ gb183)); have n6_ := q04.mk ((by rw [hg]; exact Nat.ne_of_gt (q1g (g := gb180) (o := .cells #[.int .i64 a1_0, .int .i64 a1_1, .int .i64 a1_2] 41 (0, 0)) (by (with_reducible repeat (first | refine q07 ?_ _ | refine q08 ?_ | refine q06 ?_ _)); exact BK180.out)) : gb183 ≠ gb180)); clear BK180; clear HB; have BK180 := n0_; have HB := n1_; have BK183 := n2_; have GW183 := n3_; have GE183 := n4_; have NB180_183 := n5_; have NB183_180 := n6_; clear n0_ n1_ n2_ n3_ n4_ n5_ n6_; clear hb hbox hg; have hnb27 := NB183_180.out; have hnc27 := NB180_183.out; have hcz28_0 : w26.cell? ⟨gb183, 0, none⟩ = some (.string (⟨#[]⟩ : ByteArray)) := (q03 BK183.out 0).trans rfl; have hcz28_1 : w26.cell? ⟨gb183, 1, none⟩ = some (.int .u64 0) := (q03 BK183.out 1).trans rfl; have hcz28_2 : w26.cell? ⟨gb183, 2, none⟩ = some (.int .i64 0) := (q03 BK183.out 2).trans rfl; have hcz28_3 : w26.cell? ⟨gb183, 3, none⟩ = some (.string (⟨#[]⟩ : ByteArray)) := (q03 BK183.out 3).trans rfl; have hfz28_0 := q05 BK183.out 0; have hfz28_1 := q05 BK183.out 1; have hfz28_2 := q05 BK183.out 2; have hfz28_3 := q05 BK183.out 3) | ((with_reducible refine q0h (f := 56) rfl ?_); refine q0s (some 49) rfl rfl Try.func56 (by kernel_rfl) rfl #[.agg #[.string ((q0i l0 x44_2).f0), .int .u64 ((q0i l0 x44_2).f1), .int .i64 ((q0i l0 x44_2).f2), .string ((q0i l0 x44_2).f3)]] rfl (by (try simp only [List.map_toArray, List.map_cons, List.map_nil]); first | done | rfl | (simp only [List.length_drop, List.length_take]; rfl)) ?_; (with_reducible refine (block_Check.calls k2 ((q0i l0 x44_2).f0) ((q0i l0 x44_2).f1) ((q0i l0 x44_2).f2) ((q0i l0 x44_2).f3) t184 _ A24.out).mono ?_); rintro e w29 ⟨rfl, hb⟩; refine ⟨_, rfl, ?_⟩; have n0_ := q04.mk (q0f (g := gb180) (o := .cells #[.int .i64 a1_0, .int .i64 a1_1, .int .i64 a1_2] 41 (0, 0)) (by (with_reducible repeat (first | refine q07 ?_ _ | refine q08 ?_ | refine q06 ?_ _)); refine blk_far ?_ NB180_183.out _; (with_reducible repeat (first | refine q07 ?_ _ | refine q08 ?_ | refine q06 ?_ _)); refine blk_far ?_ NB180_183.out _; (with_reducible repeat (first | refine q07 ?_ _ | refine q08 ?_ | refine q06 ?_ _)); refine blk_far ?_ NB180_183.out _; (with_reducible repeat (first | refine q07 ?_ _ | refine q08 ?_ | refine q06 ?_ _)); refine blk_far ?_ NB180_183.out _; (with_reducible repeat (first | refine q07 ?_ _ | refine q08 ?_ | refine q06 ?_ _)); exact BK180.out) hb); have n1_ := q04.mk (q0f (g := gb183) (o := .cells #[.string ((q0i l0 x44_2).f0), .int .u64 ((q0i l0 x44_2).f1), .int .i64 ((q0i l0 x44_2).f2), .string ((q0i l0 x44_2).f3)] 28 (0, 0)) (by (with_reducible repeat (first | refine q07 ?_ _ | refine q08 ?_ | refine q06 ?_ _)); refine q0l (cs := #[.string ((q0i l0 x44_2).f0), .int .u64 ((q0i l0 x44_2).f1), .int .i64 ((q0i l0 x44_2).f2), .string (⟨#[]⟩ : ByteArray)]) ?_ 3 _ rfl; (with_reducible repeat (first | refine q07 ?_ _ | refine q08 ?_ | refine q06 ?_ _)); refine q0l (cs := #[.string ((q0i l0 x44_2).f0), .int .u64 ((q0i l0 x44_2).f1), .int .i64 0, .string (⟨#[]⟩ : ByteArray)]) ?_ 2 _ rfl; (with_reducible repeat (first | refine q07 ?_ _ | refine q08 ?_ | refine q06 ?_ _)); refine q0l (cs := #[.string ((q0i l0 x44_2).f0), .int .u64 0, .int .i64 0, .string (⟨#[]⟩ : ByteArray)]) ?_ 1 _ rfl; (with_reducible repeat (first | refine q07 ?_ _ | refine q08 ?_ | refine q06 ?_ _)); refine q0l (cs := #[.string (⟨#[]⟩ : ByteArray), .int .u64 0, .int .i64 0, .string (⟨#[]⟩ : ByteArray)]) ?_ 0 _ rfl; (with_reducible repeat (first | refine q07 ?_ _ | refine q08 ?_ | refine q06 ?_ _)); exact BK183.out) hb); have n2_ := q04.mk (q0a (by repeat (first | (with_reducible first | exact HB.out | apply q02 | apply q00 | apply q01 | refine q09 ?_ GE180.out | refine q09 ?_ GE183.out) | exact HB.out)) hb); clear BK180; clear BK183; clear HB; have BK180 := n0_; have BK183 := n1_; have HB := n2_; clear n0_ n1_ n2_; (try clear hb); (try clear hb2); (try clear hk); (try clear hi)))
          go_ret
          exact ⟨by first | rfl | (simp [q0c, q0b] <;> rfl) | (simp [*, q0c, q0b] <;> rfl), by repeat (first | (with_reducible first | exact HB.out | apply q02 | apply q00 | apply q01 | refine q09 ?_ GE180.out | refine q09 ?_ GE183.out) | exact HB.out)⟩
         ·rw [if_neg c25] at H
          have c25b0 : (t184 == 2) = false := beq_eq_false_iff_ne.mpr c25
          have c25b1 : (t184 != 2) = true := bne_iff_ne.mpr c25
          by_cases c30 : t184 = 0
          ·rw [if_pos c30] at H
           have c30b0 : (t184 == 0) = true := beq_iff_eq.mpr c30
           have c30b1 : (t184 != 0) = false := bne_eq_false_iff_eq.mpr c30
           clear c30
           have H' := q04.mk H
           clear H
           have p182 : 0 ≤ (x44_2 : Int) := of_decide_eq_true (by first | (with_reducible assumption) | assumption)
           have q182 : x44_2 < (l0.length : Int) := of_decide_eq_true (by first | (with_reducible assumption) | assumption)
           obtain ⟨ad182, e182, hx182_0, hx182_1, hx182_2, hx182_3⟩ := q15 HR0.out x44_2 p182 q182
           cases e182
           replace hx182_0 := (HB.out.cell (World.block_lt_of_cell? w _ hx182_0)).trans hx182_0
           replace hx182_1 := (HB.out.cell (World.block_lt_of_cell? w _ hx182_1)).trans hx182_1
           replace hx182_2 := (HB.out.cell (World.block_lt_of_cell? w _ hx182_2)).trans hx182_2
           replace hx182_3 := (HB.out.cell (World.block_lt_of_cell? w _ hx182_3)).trans hx182_3
           replace p182 := eq_true p182
           replace q182 := eq_true q182
           go_wp2_with (first | ((with_reducible refine q0q (N := 7) rfl ?_); refine q0r ?hg (N := 7) ?hd (cs := #[.string (⟨#[]⟩ : ByteArray), .int .u64 0, .int .i64 0, .string (⟨#[]⟩ : ByteArray)]) (t := 28) ?hr ?_; (case hd => rfl); (case hg => rfl); (case hr => first | (go_simp; done) | (go_simp; rfl)); intro gb183 hg w31 hbox hb; have n0_ := q04.mk (q0f (g := gb180) (o := .cells #[.int .i64 a1_0, .int .i64 a1_1, .int .i64 a1_2] 41 (0, 0)) (by (with_reducible repeat (first | refine q07 ?_ _ | refine q08 ?_ | refine q06 ?_ _)); exact BK180.out) hb); have n1_ := q04.mk (q0a (by repeat (first | (with_reducible first | exact HB.out | apply q02 | apply q00 | apply q01 | refine q09 ?_ GE180.out) | exact HB.out)) hb); have n2_ := q04.mk (hbox); have n3_ := q04.mk ((by rw [hg]; exact (q0e (by repeat (first | (with_reducible first | exact HB.out | apply q02 | apply q00 | apply q01 | refine q09 ?_ GE180.out) | exact HB.out))) : w.heap.size ≤ gb183)); have n4_ := q04.mk ((by rw [hg]; exact (q0e (by repeat (first | (with_reducible first | exact HB.out | apply q02 | apply q00 | apply q01 | refine q09 ?_ GE180.out) | exact HB.out))) : w.heap.size ≤ gb183)); have n5_ := q04.mk ((by rw [hg]; exact Nat.ne_of_lt (q1g (g := gb180) (o := .cells #[.int .i64 a1_0, .int .i64 a1_1, .int .i64 a1_2] 41 (0, 0)) (by (with_reducible repeat (first | refine q07 ?_ _ | refine q08 ?_ | refine q06 ?_ _)); exact BK180.out)) : gb180 ≠ gb183)); have n6_ := q04.mk ((by rw [hg]; exact Nat.ne_of_gt (q1g (g := gb180) (o := .cells #[.int .i64 a1_0, .int .i64 a1_1, .int .i64 a1_2] 41 (0, 0)) (by (with_reducible repeat (first | refine q07 ?_ _ | refine q08 ?_ | refine q06 ?_ _)); exact BK180.out)) : gb183 ≠ gb180)); clear BK180; clear HB; have BK180 := n0_; have HB := n1_; have BK183 := n2_; have GW183 := n3_; have GE183 := n4_; have NB180_183 := n5_; have NB183_180 := n6_; clear n0_ n1_ n2_ n3_ n4_ n5_ n6_; clear hb hbox hg; have hnb32 := NB183_180.out; have hnc32 := NB180_183.out; have hcz33_0 : w31.cell? ⟨gb183, 0, none⟩ = some (.string (⟨#[]⟩ : ByteArray)) := (q03 BK183.out 0).trans rfl; have hcz33_1 : w31.cell? ⟨gb183, 1, none⟩ = some (.int .u64 0) := (q03 BK183.out 1).trans rfl; have hcz33_2 : w31.cell? ⟨gb183, 2, none⟩ = some (.int .i64 0) := (q03 BK183.out 2).trans rfl; have hcz33_3 : w31.cell? ⟨gb183, 3, none⟩ = some (.string (⟨#[]⟩ : ByteArray)) := (q03 BK183.out 3).trans rfl; have hfz33_0 := q05 BK183.out 0; have hfz33_1 := q05 BK183.out 1; have hfz33_2 := q05 BK183.out 2; have hfz33_3 := q05 BK183.out 3) | ((with_reducible refine q0h (f := 56) rfl ?_); refine q0s (some 49) rfl rfl Try.func56 (by kernel_rfl) rfl #[.agg #[.string ((q0i l0 x44_2).f0), .int .u64 ((q0i l0 x44_2).f1), .int .i64 ((q0i l0 x44_2).f2), .string ((q0i l0 x44_2).f3)]] rfl (by (try simp only [List.map_toArray, List.map_cons, List.map_nil]); first | done | rfl | (simp only [List.length_drop, List.length_take]; rfl)) ?_; (with_reducible refine (block_Check.calls k2 ((q0i l0 x44_2).f0) ((q0i l0 x44_2).f1) ((q0i l0 x44_2).f2) ((q0i l0 x44_2).f3) t184 _ A24.out).mono ?_); rintro e w34 ⟨rfl, hb⟩; refine ⟨_, rfl, ?_⟩; have n0_ := q04.mk (q0f (g := gb180) (o := .cells #[.int .i64 a1_0, .int .i64 a1_1, .int .i64 a1_2] 41 (0, 0)) (by (with_reducible repeat (first | refine q07 ?_ _ | refine q08 ?_ | refine q06 ?_ _)); refine blk_far ?_ NB180_183.out _; (with_reducible repeat (first | refine q07 ?_ _ | refine q08 ?_ | refine q06 ?_ _)); refine blk_far ?_ NB180_183.out _; (with_reducible repeat (first | refine q07 ?_ _ | refine q08 ?_ | refine q06 ?_ _)); refine blk_far ?_ NB180_183.out _; (with_reducible repeat (first | refine q07 ?_ _ | refine q08 ?_ | refine q06 ?_ _)); refine blk_far ?_ NB180_183.out _; (with_reducible repeat (first | refine q07 ?_ _ | refine q08 ?_ | refine q06 ?_ _)); exact BK180.out) hb); have n1_ := q04.mk (q0f (g := gb183) (o := .cells #[.string ((q0i l0 x44_2).f0), .int .u64 ((q0i l0 x44_2).f1), .int .i64 ((q0i l0 x44_2).f2), .string ((q0i l0 x44_2).f3)] 28 (0, 0)) (by (with_reducible repeat (first | refine q07 ?_ _ | refine q08 ?_ | refine q06 ?_ _)); refine q0l (cs := #[.string ((q0i l0 x44_2).f0), .int .u64 ((q0i l0 x44_2).f1), .int .i64 ((q0i l0 x44_2).f2), .string (⟨#[]⟩ : ByteArray)]) ?_ 3 _ rfl; (with_reducible repeat (first | refine q07 ?_ _ | refine q08 ?_ | refine q06 ?_ _)); refine q0l (cs := #[.string ((q0i l0 x44_2).f0), .int .u64 ((q0i l0 x44_2).f1), .int .i64 0, .string (⟨#[]⟩ : ByteArray)]) ?_ 2 _ rfl; (with_reducible repeat (first | refine q07 ?_ _ | refine q08 ?_ | refine q06 ?_ _)); refine q0l (cs := #[.string ((q0i l0 x44_2).f0), .int .u64 0, .int .i64 0, .string (⟨#[]⟩ : ByteArray)]) ?_ 1 _ rfl; (with_reducible repeat (first | refine q07 ?_ _ | refine q08 ?_ | refine q06 ?_ _)); refine q0l (cs := #[.string (⟨#[]⟩ : ByteArray), .int .u64 0, .int .i64 0, .string (⟨#[]⟩ : ByteArray)]) ?_ 0 _ rfl; (with_reducible repeat (first | refine q07 ?_ _ | refine q08 ?_ | refine q06 ?_ _)); exact BK183.out) hb); have n2_ := q04.mk (q0a (by repeat (first | (with_reducible first | exact HB.out | apply q02 | apply q00 | apply q01 | refine q09 ?_ GE180.out | refine q09 ?_ GE183.out) | exact HB.out)) hb); clear BK180; clear BK183; clear HB; have BK180 := n0_; have BK183 := n1_; have HB := n2_; clear n0_ n1_ n2_; (try clear hb); (try clear hb2); (try clear hk); (try clear hi)))
           go_roundg k2
           case measure => have := HJ2.out; have := HK2.out; omega
           case rel => exact ⟨(x5_2), (wrap64 (x44_2 + 1)), (by first | rfl | (simp; done) | (simp [*]; done)), (by first | rfl | (simp; done) | (simp [*]; done)), H', ⟨by have := HJ2.out; have := HK2.out; omega⟩, ⟨by (with_reducible repeat (first | refine q07 ?_ _ | refine q08 ?_ | refine q06 ?_ _)); exact BK180.out⟩, ⟨by repeat (first | (with_reducible first | exact HB.out | apply q02 | apply q00 | apply q01 | refine q09 ?_ GE180.out | refine q09 ?_ GE183.out) | exact HB.out)⟩⟩
          ·rw [if_neg c30] at H
           have c30b0 : (t184 == 0) = false := beq_eq_false_iff_ne.mpr c30
           have c30b1 : (t184 != 0) = true := bne_iff_ne.mpr c30
           have H' := q04.mk H
           clear H
           have p182 : 0 ≤ (x44_2 : Int) := of_decide_eq_true (by first | (with_reducible assumption) | assumption)
           have q182 : x44_2 < (l0.length : Int) := of_decide_eq_true (by first | (with_reducible assumption) | assumption)
           obtain ⟨ad182, e182, hx182_0, hx182_1, hx182_2, hx182_3⟩ := q15 HR0.out x44_2 p182 q182
           cases e182
           replace hx182_0 := (HB.out.cell (World.block_lt_of_cell? w _ hx182_0)).trans hx182_0
           replace hx182_1 := (HB.out.cell (World.block_lt_of_cell? w _ hx182_1)).trans hx182_1
           replace hx182_2 := (HB.out.cell (World.block_lt_of_cell? w _ hx182_2)).trans hx182_2
           replace hx182_3 := (HB.out.cell (World.block_lt_of_cell? w _ hx182_3)).trans hx182_3
           replace p182 := eq_true p182
           replace q182 := eq_true q182
           go_wp2_with (first | ((with_reducible refine q0q (N := 7) rfl ?_); refine q0r ?hg (N := 7) ?hd (cs := #[.string (⟨#[]⟩ : ByteArray), .int .u64 0, .int .i64 0, .string (⟨#[]⟩ : ByteArray)]) (t := 28) ?hr ?_; (case hd => rfl); (case hg => rfl); (case hr => first | (go_simp; done) | (go_simp; rfl)); intro gb183 hg w35 hbox hb; have n0_ := q04.mk (q0f (g := gb180) (o := .cells #[.int .i64 a1_0, .int .i64 a1_1, .int .i64 a1_2] 41 (0, 0)) (by (with_reducible repeat (first | refine q07 ?_ _ | refine q08 ?_ | refine q06 ?_ _)); exact BK180.out) hb); have n1_ := q04.mk (q0a (by repeat (first | (with_reducible first | exact HB.out | apply q02 | apply q00 | apply q01 | refine q09 ?_ GE180.out) | exact HB.out)) hb); have n2_ := q04.mk (hbox); have n3_ := q04.mk ((by rw [hg]; exact (q0e (by repeat (first | (with_reducible first | exact HB.out | apply q02 | apply q00 | apply q01 | refine q09 ?_ GE180.out) | exact HB.out))) : w.heap.size ≤ gb183)); have n4_ := q04.mk ((by rw [hg]; exact (q0e (by repeat (first | (with_reducible first | exact HB.out | apply q02 | apply q00 | apply q01 | refine q09 ?_ GE180.out) | exact HB.out))) : w.heap.size ≤ gb183)); have n5_ := q04.mk ((by rw [hg]; exact Nat.ne_of_lt (q1g (g := gb180) (o := .cells #[.int .i64 a1_0, .int .i64 a1_1, .int .i64 a1_2] 41 (0, 0)) (by (with_reducible repeat (first | refine q07 ?_ _ | refine q08 ?_ | refine q06 ?_ _)); exact BK180.out)) : gb180 ≠ gb183)); have n6_ := q04.mk ((by rw [hg]; exact Nat.ne_of_gt (q1g (g := gb180) (o := .cells #[.int .i64 a1_0, .int .i64 a1_1, .int .i64 a1_2] 41 (0, 0)) (by (with_reducible repeat (first | refine q07 ?_ _ | refine q08 ?_ | refine q06 ?_ _)); exact BK180.out)) : gb183 ≠ gb180)); clear BK180; clear HB; have BK180 := n0_; have HB := n1_; have BK183 := n2_; have GW183 := n3_; have GE183 := n4_; have NB180_183 := n5_; have NB183_180 := n6_; clear n0_ n1_ n2_ n3_ n4_ n5_ n6_; clear hb hbox hg; have hnb36 := NB183_180.out; have hnc36 := NB180_183.out; have hcz37_0 : w35.cell? ⟨gb183, 0, none⟩ = some (.string (⟨#[]⟩ : ByteArray)) := (q03 BK183.out 0).trans rfl; have hcz37_1 : w35.cell? ⟨gb183, 1, none⟩ = some (.int .u64 0) := (q03 BK183.out 1).trans rfl; have hcz37_2 : w35.cell? ⟨gb183, 2, none⟩ = some (.int .i64 0) := (q03 BK183.out 2).trans rfl; have hcz37_3 : w35.cell? ⟨gb183, 3, none⟩ = some (.string (⟨#[]⟩ : ByteArray)) := (q03 BK183.out 3).trans rfl; have hfz37_0 := q05 BK183.out 0; have hfz37_1 := q05 BK183.out 1; have hfz37_2 := q05 BK183.out 2; have hfz37_3 := q05 BK183.out 3) | ((with_reducible refine q0h (f := 56) rfl ?_); refine q0s (some 49) rfl rfl Try.func56 (by kernel_rfl) rfl #[.agg #[.string ((q0i l0 x44_2).f0), .int .u64 ((q0i l0 x44_2).f1), .int .i64 ((q0i l0 x44_2).f2), .string ((q0i l0 x44_2).f3)]] rfl (by (try simp only [List.map_toArray, List.map_cons, List.map_nil]); first | done | rfl | (simp only [List.length_drop, List.length_take]; rfl)) ?_; (with_reducible refine (block_Check.calls k2 ((q0i l0 x44_2).f0) ((q0i l0 x44_2).f1) ((q0i l0 x44_2).f2) ((q0i l0 x44_2).f3) t184 _ A24.out).mono ?_); rintro e w38 ⟨rfl, hb⟩; refine ⟨_, rfl, ?_⟩; have n0_ := q04.mk (q0f (g := gb180) (o := .cells #[.int .i64 a1_0, .int .i64 a1_1, .int .i64 a1_2] 41 (0, 0)) (by (with_reducible repeat (first | refine q07 ?_ _ | refine q08 ?_ | refine q06 ?_ _)); refine blk_far ?_ NB180_183.out _; (with_reducible repeat (first | refine q07 ?_ _ | refine q08 ?_ | refine q06 ?_ _)); refine blk_far ?_ NB180_183.out _; (with_reducible repeat (first | refine q07 ?_ _ | refine q08 ?_ | refine q06 ?_ _)); refine blk_far ?_ NB180_183.out _; (with_reducible repeat (first | refine q07 ?_ _ | refine q08 ?_ | refine q06 ?_ _)); refine blk_far ?_ NB180_183.out _; (with_reducible repeat (first | refine q07 ?_ _ | refine q08 ?_ | refine q06 ?_ _)); exact BK180.out) hb); have n1_ := q04.mk (q0f (g := gb183) (o := .cells #[.string ((q0i l0 x44_2).f0), .int .u64 ((q0i l0 x44_2).f1), .int .i64 ((q0i l0 x44_2).f2), .string ((q0i l0 x44_2).f3)] 28 (0, 0)) (by (with_reducible repeat (first | refine q07 ?_ _ | refine q08 ?_ | refine q06 ?_ _)); refine q0l (cs := #[.string ((q0i l0 x44_2).f0), .int .u64 ((q0i l0 x44_2).f1), .int .i64 ((q0i l0 x44_2).f2), .string (⟨#[]⟩ : ByteArray)]) ?_ 3 _ rfl; (with_reducible repeat (first | refine q07 ?_ _ | refine q08 ?_ | refine q06 ?_ _)); refine q0l (cs := #[.string ((q0i l0 x44_2).f0), .int .u64 ((q0i l0 x44_2).f1), .int .i64 0, .string (⟨#[]⟩ : ByteArray)]) ?_ 2 _ rfl; (with_reducible repeat (first | refine q07 ?_ _ | refine q08 ?_ | refine q06 ?_ _)); refine q0l (cs := #[.string ((q0i l0 x44_2).f0), .int .u64 0, .int .i64 0, .string (⟨#[]⟩ : ByteArray)]) ?_ 1 _ rfl; (with_reducible repeat (first | refine q07 ?_ _ | refine q08 ?_ | refine q06 ?_ _)); refine q0l (cs := #[.string (⟨#[]⟩ : ByteArray), .int .u64 0, .int .i64 0, .string (⟨#[]⟩ : ByteArray)]) ?_ 0 _ rfl; (with_reducible repeat (first | refine q07 ?_ _ | refine q08 ?_ | refine q06 ?_ _)); exact BK183.out) hb); have n2_ := q04.mk (q0a (by repeat (first | (with_reducible first | exact HB.out | apply q02 | apply q00 | apply q01 | refine q09 ?_ GE180.out | refine q09 ?_ GE183.out) | exact HB.out)) hb); clear BK180; clear BK183; clear HB; have BK180 := n0_; have BK183 := n1_; have HB := n2_; clear n0_ n1_ n2_; (try clear hb); (try clear hb2); (try clear hk); (try clear hi)))
           go_roundg k2
           case measure => have := HJ2.out; have := HK2.out; omega
           case rel => exact ⟨(t184), (wrap64 (x44_2 + 1)), (by first | rfl | (simp; done) | (simp [*]; done)), (by first | rfl | (simp; done) | (simp [*]; done)), H', ⟨by have := HJ2.out; have := HK2.out; omega⟩, ⟨by (with_reducible repeat (first | refine q07 ?_ _ | refine q08 ?_ | refine q06 ?_ _)); exact BK180.out⟩, ⟨by repeat (first | (with_reducible first | exact HB.out | apply q02 | apply q00 | apply q01 | refine q09 ?_ GE180.out | refine q09 ?_ GE183.out) | exact HB.out)⟩⟩
        ·rw [if_neg c23] at H
         exact absurd H (by simp)
       ·rw [if_neg c22] at H
        exact absurd H (by simp)
      ·rw [if_neg c21] at H
       have c21b0 : decide (x44_2 < (l0.length : Int)) = false := decide_eq_false c21
       clear c21
       obtain rfl := Option.some.inj H
       go_wp2
       go_ret
       exact ⟨by first | rfl | (simp [q0c, q0b] <;> rfl) | (simp [*, q0c, q0b] <;> rfl), by repeat (first | (with_reducible first | exact HB.out | apply q02 | apply q00 | apply q01 | refine q09 ?_ GE180.out) | exact HB.out)⟩
end Go.Proofs.Ytaigmemmgjlhgaa.Print
-- Print1
namespace Go.Proofs.Ytaigmemmgjlhgaa.Print
open Go.RowKit Go.Proofs.YtaigmemmgjlhgaaW.PrintWords Go.Proofs.YtaigmemmgjlhgaaW.PrintLast Go.Proofs.YtaigmemmgjlhgaaW.PrintMore
attribute [local go_sem] q1d q1b q1t q1s q19 q17 q1c q1a
set_option linter.unusedVariables false
set_option linter.unusedSimpArgs false
theorem eqA28 (d : Nat) (w : World) (x0 y0 : ByteArray) (x1 y1 : Int) (x2 y2 : Int) (x3 y3 : ByteArray) :
  (Op.equalIn (d + 2) 28 (.agg #[.string x0, .int .u64 x1, .int .i64 x2, .string x3]) (.agg #[.string y0, .int .u64 y1, .int .i64 y2, .string y3])).run Try.prog w = .ok (x0.toList == y0.toList && (x1 == y1 && (x2 == y2 && (x3.toList == y3.toList)))) w := by
 refine eqA_of Try.underlying28 (by kernel_rfl) ?_
 refine eqf_cons (by rfl) (by go_simp; rfl) (by go_simp; rfl) (by go_simp) ?_
 refine eqf_cons (by rfl) (by go_simp; rfl) (by go_simp; rfl) (by go_simp) ?_
 refine eqf_cons (by rfl) (by go_simp; rfl) (by go_simp; rfl) (by go_simp) ?_
 exact eqf_last (by rfl) (by go_simp; rfl) (by go_simp; rfl) (by go_simp)
end Go.Proofs.Ytaigmemmgjlhgaa.Print
-- Print24
namespace Go.Proofs.Ytaigmemmgjlhgaa.Print
open Go.RowKit Go.Proofs.YtaigmemmgjlhgaaW.PrintWords Go.Proofs.YtaigmemmgjlhgaaW.PrintLast Go.Proofs.YtaigmemmgjlhgaaW.PrintMore
attribute [local go_sem] q1d q1b q1t q1s q19 q17 q1c q1a
set_option linter.unusedVariables false
set_option linter.unusedSimpArgs false
attribute [local go_sem high] eqA28
def freshetref06_SameRows.l0 : Nat → List (S28) → List (S28) → Int → Option (Bool)
 | 0, _, _, _ => none
 | k + 1, x0, x1, x5 => if x5 < (x0.length : Int) then (if 0 ≤ x5 then (if x5 < (x1.length : Int) then (if (!((((q0i x0 x5).f0).toList) == (((q0i x1 x5).f0).toList)) || (!(((q0i x0 x5).f1) == ((q0i x1 x5).f1)) || (!(((q0i x0 x5).f2) == ((q0i x1 x5).f2)) || (!((((q0i x0 x5).f3).toList) == (((q0i x1 x5).f3).toList)))))) = true then (some false) else (freshetref06_SameRows.l0 k x0 x1 (wrap64 (x5 + 1)))) else (none)) else (none)) else (some true)
def freshetref06_SameRows.f (k : Nat) (l0 : List (S28)) (l1 : List (S28)) : Option (Bool) := if (l0.length : Int) = (l1.length : Int) then (freshetref06_SameRows.l0 k l0 l1 0) else (some false)
theorem freshetref06_SameRows.mono_l : ∀ k, (∀ y0 y1 y2, LeO (freshetref06_SameRows.l0 k y0 y1 y2) (freshetref06_SameRows.l0 (k + 1) y0 y1 y2))
 | 0 => fun _ _ _ r h => by simp [freshetref06_SameRows.l0] at h
 | k + 1 => by
  have ih0 := freshetref06_SameRows.mono_l k
  ·intro y0 y1 y2
   unfold freshetref06_SameRows.l0
   repeat' first
   | (with_reducible exact ih0 _ _ _)
   | (with_reducible exact LeO.refl _)
   | (with_reducible exact LeO.none _)
   | (with_reducible refine LeO.ite ?_ ?_)
   | (with_reducible refine LeO.bind ?_ (fun _ => ?_))
   | exact ih0 _ _ _
   | exact LeO.none _
   | refine LeO.ite ?_ ?_
   | refine LeO.bind ?_ (fun _ => ?_)
theorem freshetref06_SameRows.mono : ∀ a0 a1 k, LeO (freshetref06_SameRows.f k a0 a1) (freshetref06_SameRows.f (k + 1) a0 a1) := by
 intro a0 a1 k
 have ih0 := freshetref06_SameRows.mono_l k
 unfold freshetref06_SameRows.f
 repeat' first
   | (with_reducible exact ih0 _ _ _)
   | (with_reducible exact LeO.refl _)
   | (with_reducible exact LeO.none _)
   | (with_reducible refine LeO.ite ?_ ?_)
   | (with_reducible refine LeO.bind ?_ (fun _ => ?_))
   | exact ih0 _ _ _
   | exact LeO.none _
   | refine LeO.ite ?_ ?_
   | refine LeO.bind ?_ (fun _ => ?_)
set_option maxHeartbeats 8000000 in
set_option maxRecDepth 100000 in
theorem freshetref06_SameRows.calls (k : Nat) (A0 : Option Addr) (c0 : Nat) (l0 : List (S28)) (A1 : Option Addr) (c1 : Nat) (l1 : List (S28)) (r : Bool) (w : World) (hr0 : Kd.C k28 w A0 l0.length l0) (hc0 : l0.length ≤ c0) (hr1 : Kd.C k28 w A1 l1.length l1) (hc1 : l1.length ≤ c1) (h : freshetref06_SameRows.f k l0 l1 = some r) :
  Calls Try.prog 18 #[.slice A0 l0.length c0, .slice A1 l1.length c1] w fun e w' => e = .returned (.bool r) ∧ q0k w w' := by
 have hu28 := Try.underlying28
 have HR0 := q04.mk hr0
 have HC0 := q04.mk hc0
 clear hr0 hc0
 have HR1 := q04.mk hr1
 have HC1 := q04.mk hc1
 clear hr1 hc1
 have H : (if (l0.length : Int) = (l1.length : Int) then (freshetref06_SameRows.l0 k l0 l1 0) else (some false)) = some r := h
 clear h
 by_cases c3 : (l0.length : Int) = (l1.length : Int)
 ·rw [if_pos c3] at H
  have c3b0 : ((l0.length : Int) == (l1.length : Int)) = true := beq_iff_eq.mpr c3
  have c3b1 : ((l0.length : Int) != (l1.length : Int)) = false := bne_eq_false_iff_eq.mpr c3
  have c3b2 : (l0.length == l1.length) = true := by first | simpa using c3 | (simp at c3 ⊢; omega)
  clear c3
  have H' := q04.mk H
  clear H
  go_enter Try.func18, Try.ntmps18
  go_wp2
  repeat (go_quiet (fail); try go_wp2)
  go_loopg [5] k (fun kq v5 w' => ∃ (x5_1 : Int), v5 = .int .i64 x5_1 ∧ q04 (freshetref06_SameRows.l0 kq l0 l1 x5_1 = some r) ∧ q04 (kq ≤ k) ∧ q0k w w')
  case atStart => exact ⟨(0), (by first | rfl | (simp; done) | (simp [*]; done)), H', ⟨Nat.le_refl _⟩, by repeat (first | exact q0k.refl _ | apply q0k.step)⟩
  case round =>
   clear H'
   try clear c1
   try clear p2
   try clear c3
   try clear c3b0
   try clear c3b1
   try clear c3b2
   obtain ⟨x5_1, rfl, HA, HK1, ⟨m1, rfl⟩⟩ := hrel
   cases gk with
   | zero => exact absurd HA.out (by simp [freshetref06_SameRows.l0])
   | succ k1 =>
    have H := HA.out
    clear HA
    simp only [freshetref06_SameRows.l0] at H
    by_cases c4 : x5_1 < (l0.length : Int)
    ·rw [if_pos c4] at H
     have c4b0 : decide (x5_1 < (l0.length : Int)) = true := decide_eq_true c4
     clear c4
     by_cases c5 : 0 ≤ x5_1
     ·rw [if_pos c5] at H
      have c5b0 : decide (0 ≤ x5_1) = true := decide_eq_true c5
      clear c5
      by_cases c6 : x5_1 < (l1.length : Int)
      ·rw [if_pos c6] at H
       have c6b0 : decide (x5_1 < (l1.length : Int)) = true := decide_eq_true c6
       clear c6
       by_cases c7 : (!((((q0i l0 x5_1).f0).toList) == (((q0i l1 x5_1).f0).toList)) || (!(((q0i l0 x5_1).f1) == ((q0i l1 x5_1).f1)) || (!(((q0i l0 x5_1).f2) == ((q0i l1 x5_1).f2)) || (!((((q0i l0 x5_1).f3).toList) == (((q0i l1 x5_1).f3).toList)))))) = true
       ·rw [if_pos c7] at H
        have c7b0 : (!((((q0i l0 x5_1).f0).toList) == (((q0i l1 x5_1).f0).toList)) || (!(((q0i l0 x5_1).f1) == ((q0i l1 x5_1).f1)) || (!(((q0i l0 x5_1).f2) == ((q0i l1 x5_1).f2)) || (!((((q0i l0 x5_1).f3).toList) == (((q0i l1 x5_1).f3).toList)))))) = true := c7
        clear c7
        obtain rfl := Option.some.inj H
        have p329 : 0 ≤ (x5_1 : Int) := of_decide_eq_true (by first | (with_reducible assumption) | assumption)
        have q329 : x5_1 < (l0.length : Int) := of_decide_eq_true (by first | (with_reducible assumption) | assumption)
        obtain ⟨ad329, e329, hx329_0, hx329_1, hx329_2, hx329_3⟩ := q15 HR0.out x5_1 p329 q329
        cases e329
        replace p329 := eq_true p329
        replace q329 := eq_true q329
        have p330 : 0 ≤ (x5_1 : Int) := of_decide_eq_true (by first | (with_reducible assumption) | assumption)
        have q330 : x5_1 < (l1.length : Int) := of_decide_eq_true (by first | (with_reducible assumption) | assumption)
        obtain ⟨ad330, e330, hx330_0, hx330_1, hx330_2, hx330_3⟩ := q15 HR1.out x5_1 p330 q330
        cases e330
        replace p330 := eq_true p330
        replace q330 := eq_true q330
        go_wp2
        repeat (go_quiet (fail); try go_wp2)
        go_ret
        exact ⟨by first | rfl | (simp; done) | (simp [*]; done), by repeat (first | exact q0k.refl _ | apply q0k.step)⟩
       ·rw [if_neg c7] at H
        have c7b0 : (!((((q0i l0 x5_1).f0).toList) == (((q0i l1 x5_1).f0).toList)) || (!(((q0i l0 x5_1).f1) == ((q0i l1 x5_1).f1)) || (!(((q0i l0 x5_1).f2) == ((q0i l1 x5_1).f2)) || (!((((q0i l0 x5_1).f3).toList) == (((q0i l1 x5_1).f3).toList)))))) = false := by simpa using c7
        clear c7
        have H' := q04.mk H
        clear H
        have p329 : 0 ≤ (x5_1 : Int) := of_decide_eq_true (by first | (with_reducible assumption) | assumption)
        have q329 : x5_1 < (l0.length : Int) := of_decide_eq_true (by first | (with_reducible assumption) | assumption)
        obtain ⟨ad329, e329, hx329_0, hx329_1, hx329_2, hx329_3⟩ := q15 HR0.out x5_1 p329 q329
        cases e329
        replace p329 := eq_true p329
        replace q329 := eq_true q329
        have p330 : 0 ≤ (x5_1 : Int) := of_decide_eq_true (by first | (with_reducible assumption) | assumption)
        have q330 : x5_1 < (l1.length : Int) := of_decide_eq_true (by first | (with_reducible assumption) | assumption)
        obtain ⟨ad330, e330, hx330_0, hx330_1, hx330_2, hx330_3⟩ := q15 HR1.out x5_1 p330 q330
        cases e330
        replace p330 := eq_true p330
        replace q330 := eq_true q330
        go_wp2
        repeat (go_quiet (fail); try go_wp2)
        go_roundg k1
        case measure => have := HK1.out; omega
        case rel => exact ⟨(wrap64 (x5_1 + 1)), (by first | rfl | (simp; done) | (simp [*]; done)), H', ⟨by have := HK1.out; omega⟩, by repeat (first | exact q0k.refl _ | apply q0k.step)⟩
      ·rw [if_neg c6] at H
       exact absurd H (by simp)
     ·rw [if_neg c5] at H
      exact absurd H (by simp)
    ·rw [if_neg c4] at H
     have c4b0 : decide (x5_1 < (l0.length : Int)) = false := decide_eq_false c4
     clear c4
     obtain rfl := Option.some.inj H
     go_wp2
     repeat (go_quiet (fail); try go_wp2)
     go_ret
     exact ⟨by first | rfl | (simp; done) | (simp [*]; done), by repeat (first | exact q0k.refl _ | apply q0k.step)⟩
 ·rw [if_neg c3] at H
  have c3b0 : ((l0.length : Int) == (l1.length : Int)) = false := beq_eq_false_iff_ne.mpr c3
  have c3b1 : ((l0.length : Int) != (l1.length : Int)) = true := bne_iff_ne.mpr c3
  have c3b2 : (l0.length == l1.length) = false := by first | simpa using c3 | (simp at c3 ⊢; omega)
  obtain rfl := Option.some.inj H
  go_enter Try.func18, Try.ntmps18
  go_wp2
  repeat (go_quiet (fail); try go_wp2)
  go_ret
  exact ⟨by first | rfl | (simp; done) | (simp [*]; done), by repeat (first | exact q0k.refl _ | apply q0k.step)⟩
def freshetlaw12_kept.f (k : Nat) (l0 : List (S28)) (l1 : List (S28)) : Option (Bool) := (freshetref06_SameRows.f k l0 l1).bind fun t331 => (if t331 = true then (if 0 ≤ (wrap64 ((l1.length : Int) + 1)) then (if (wrap64 ((l1.length : Int) + 1)) ≤ (l0.length : Int) then ((some (l0.take ((wrap64 ((l1.length : Int) + 1)) : Int).toNat : List (S28))).bind fun y332 => (if 0 ≤ (l1.length : Int) then (if (l1.length : Int) < (y332.length : Int) then (some (((q0i y332 (l1.length : Int)).f2) == 77)) else (none)) else (none))) else (none)) else (none)) else (some false))
theorem freshetlaw12_kept.mono : ∀ a0 a1 k, LeO (freshetlaw12_kept.f k a0 a1) (freshetlaw12_kept.f (k + 1) a0 a1) := by
 intro a0 a1 k
 unfold freshetlaw12_kept.f
 repeat' first
   | (with_reducible exact freshetref06_SameRows.mono _ _ _)
   | (with_reducible exact LeO.refl _)
   | (with_reducible exact LeO.none _)
   | (with_reducible refine LeO.ite ?_ ?_)
   | (with_reducible refine LeO.bind ?_ (fun _ => ?_))
   | exact freshetref06_SameRows.mono _ _ _
   | exact LeO.none _
   | refine LeO.ite ?_ ?_
   | refine LeO.bind ?_ (fun _ => ?_)
set_option maxHeartbeats 8000000 in
set_option maxRecDepth 100000 in
theorem freshetlaw12_kept.calls (k : Nat) (A0 : Option Addr) (c0 : Nat) (l0 : List (S28)) (A1 : Option Addr) (c1 : Nat) (l1 : List (S28)) (r : Bool) (w : World) (hr0 : Kd.C k28 w A0 l0.length l0) (hc0 : l0.length ≤ c0) (hr1 : Kd.C k28 w A1 l1.length l1) (hc1 : l1.length ≤ c1) (h : freshetlaw12_kept.f k l0 l1 = some r) :
  Calls Try.prog 22 #[.slice A0 l0.length c0, .slice A1 l1.length c1] w fun e w' => e = .returned (.bool r) ∧ q0k w w' := by
 have HR0 := q04.mk hr0
 have HC0 := q04.mk hc0
 clear hr0 hc0
 have HR1 := q04.mk hr1
 have HC1 := q04.mk hc1
 clear hr1 hc1
 have H : ((freshetref06_SameRows.f k l0 l1).bind fun t331 => (if t331 = true then (if 0 ≤ (wrap64 ((l1.length : Int) + 1)) then (if (wrap64 ((l1.length : Int) + 1)) ≤ (l0.length : Int) then ((some (l0.take ((wrap64 ((l1.length : Int) + 1)) : Int).toNat : List (S28))).bind fun y332 => (if 0 ≤ (l1.length : Int) then (if (l1.length : Int) < (y332.length : Int) then (some (((q0i y332 (l1.length : Int)).f2) == 77)) else (none)) else (none))) else (none)) else (none)) else (some false))) = some r := h
 clear h
 replace H := Option.bind_eq_some_iff.mp H
 obtain ⟨t331, A30, H⟩ := H
 replace H : (if t331 = true then (if 0 ≤ (wrap64 ((l1.length : Int) + 1)) then (if (wrap64 ((l1.length : Int) + 1)) ≤ (l0.length : Int) then ((some (l0.take ((wrap64 ((l1.length : Int) + 1)) : Int).toNat : List (S28))).bind fun y332 => (if 0 ≤ (l1.length : Int) then (if (l1.length : Int) < (y332.length : Int) then (some (((q0i y332 (l1.length : Int)).f2) == 77)) else (none)) else (none))) else (none)) else (none)) else (some false)) = some r := H
 have A3 := q04.mk A30
 clear A30
 by_cases c4 : t331 = true
 ·subst c4
  have H1 : (if 0 ≤ (wrap64 ((l1.length : Int) + 1)) then (if (wrap64 ((l1.length : Int) + 1)) ≤ (l0.length : Int) then ((some (l0.take ((wrap64 ((l1.length : Int) + 1)) : Int).toNat : List (S28))).bind fun y332 => (if 0 ≤ (l1.length : Int) then (if (l1.length : Int) < (y332.length : Int) then (some (((q0i y332 (l1.length : Int)).f2) == 77)) else (none)) else (none))) else (none)) else (none)) = some r := by rw [if_pos rfl] at H; exact H
  clear H
  have H := H1
  clear H1
  obtain ⟨ji5, hji5⟩ : ∃ j_ : Int, (wrap64 ((l1.length : Int) + 1)) = j_ := ⟨_, rfl⟩
  replace H : (if 0 ≤ (ji5) then (if (ji5) ≤ (l0.length : Int) then ((some (l0.take ((ji5) : Int).toNat : List (S28))).bind fun y332 => (if 0 ≤ (l1.length : Int) then (if (l1.length : Int) < (y332.length : Int) then (some (((q0i y332 (l1.length : Int)).f2) == 77)) else (none)) else (none))) else (none)) else (none)) = some r := by first | (rw [hji5] at H; exact H) | (simp only [hji5] at H ⊢; exact H)
  (try rw [hji5] at A3)
  have hji5w : (IntKind.i64.wrap ((l1.length : Int) + 1)) = ji5 := (i64_w _).trans hji5
  by_cases c6 : 0 ≤ (ji5)
  ·rw [if_pos c6] at H
   have c6b0 := eq_true c6
   have c6b1 : decide (0 ≤ (ji5)) = true := decide_eq_true c6
   clear c6
   by_cases c7 : (ji5) ≤ (l0.length : Int)
   ·rw [if_pos c7] at H
    have c7b0 := eq_true c7
    have c7b1 : decide ((ji5) ≤ (l0.length : Int)) = true := decide_eq_true c7
    clear c7
    obtain ⟨y332, hy332⟩ : ∃ y_ : List (S28), y_ = (l0.take ((ji5) : Int).toNat) := ⟨_, rfl⟩
    replace H : (if 0 ≤ (l1.length : Int) then (if (l1.length : Int) < (y332.length : Int) then (some (((q0i y332 (l1.length : Int)).f2) == 77)) else (none)) else (none)) = some r := by first | (rw [hy332]; with_reducible exact H) | (have H2_ := (Option.bind_some _ _).symm.trans H; rw [hy332]; with_reducible exact H2_) | (have H2_ := (Option.bind_some _ _).symm.trans H; with_reducible exact H2_) | with_reducible exact H | (rw [hy332]; exact H) | exact H
    have Ny332 := q04.mk hy332
    clear hy332
    by_cases c8 : 0 ≤ (l1.length : Int)
    ·rw [if_pos c8] at H
     have c8b0 : decide (0 ≤ (l1.length : Int)) = true := decide_eq_true c8
     have c8b1 : decide (0 ≤ l1.length) = true := decide_eq_true (by omega)
     clear c8
     by_cases c9 : (l1.length : Int) < (y332.length : Int)
     ·rw [if_pos c9] at H
      have c9b0 : decide ((l1.length : Int) < (y332.length : Int)) = true := decide_eq_true c9
      have c9b1 : decide (l1.length < y332.length) = true := decide_eq_true (Int.ofNat_lt.mp c9)
      clear c9
      obtain rfl := Option.some.inj H
      go_enter Try.func22, Try.ntmps22
      go_wp2_with (first | ((with_reducible refine q0h (f := 18) rfl ?_); refine q0s (some 7) rfl rfl Try.func18 (by kernel_rfl) rfl #[.slice A0 l0.length c0, .slice A1 l1.length c1] rfl (by (try simp only [List.map_toArray, List.map_cons, List.map_nil]); first | done | rfl | (simp only [List.length_drop, List.length_take]; rfl)) ?_; (with_reducible refine (freshetref06_SameRows.calls k _ _ l0 _ _ l1 true _ ?side1 ?side2 ?side3 ?side4 A3.out).mono ?_); (case side1 => repeat (first | exact HR0.out | (with_reducible refine Kd.C_alloc ?_ _) | (with_reducible refine Kd.C_drewN ?_ _) | (with_reducible refine Kd.C_drew ?_))); (case side2 => exact HC0.out); (case side3 => repeat (first | exact HR1.out | (with_reducible refine Kd.C_alloc ?_ _) | (with_reducible refine Kd.C_drewN ?_ _) | (with_reducible refine Kd.C_drew ?_))); (case side4 => exact HC1.out); rintro e w' ⟨rfl, ⟨nd, rfl⟩⟩; refine ⟨_, rfl, ?_⟩; have q10 : ((ji5) : Int) ≤ ((l0.length : Int) : Int) := of_decide_eq_true (by first | (with_reducible assumption) | assumption); obtain ⟨i010, hi010, _, hsz10, _⟩ := info_parts info28; have hroom10 : l0.length ≤ c0 := HC0.out; have hC10 : Kd.C k28 _ A0 l0.length l0 := HR0.out; have hcut10 := cut_to (P := Try.prog) 32 28 .i64 Try.underlying32 hi010 A0 l0.length c0 (ji5) (of_decide_eq_true (by first | (with_reducible assumption) | assumption)) q10 hroom10; have hr10 := Kd.C_take (m := ((ji5) : Int).toNat) hC10 (by omega); have hy10 : y332.length = ((ji5) : Int).toNat := (by rw [Ny332.out, List.length_take]; omega); rw [← Ny332.out] at hr10; rw [← hy10] at hcut10; have HR335 := q04.mk hr10; have HC335 := q04.mk (show y332.length ≤ c0 from by omega); clear hr10 hC10 hroom10 hi010 hsz10; have KY10 := q04.mk hy10; clear hy10; replace q10 := eq_true q10; have p336 : 0 ≤ ((l1.length : Int) : Int) := of_decide_eq_true (by first | (with_reducible assumption) | assumption); have q336 : (l1.length : Int) < (y332.length : Int) := of_decide_eq_true (by first | (with_reducible assumption) | assumption); obtain ⟨ad336, e336, hx336_0, hx336_1, hx336_2, hx336_3⟩ := q15 HR335.out (l1.length : Int) p336 q336; cases e336; (try simp only [Go.IntWalk.toNatUp] at hx336_0); (try simp only [Go.IntWalk.toNatUp] at hx336_1); (try simp only [Go.IntWalk.toNatUp] at hx336_2); (try simp only [Go.IntWalk.toNatUp] at hx336_3); replace p336 := eq_true p336; replace q336 := eq_true q336))
      go_ret
      exact ⟨by first | rfl | (simp; done) | (simp only [← hji5] <;> (first | rfl | simp)) | (simp [*]; done), by repeat (first | exact q0k.refl _ | apply q0k.step)⟩
     ·rw [if_neg c9] at H
      exact absurd H (by simp)
    ·rw [if_neg c8] at H
     exact absurd H (by simp)
   ·rw [if_neg c7] at H
    exact absurd H (by simp)
  ·rw [if_neg c6] at H
   exact absurd H (by simp)
 ·replace c4 := Bool.eq_false_iff.mpr c4
  subst c4
  have H1 : (some false) = some r := by rw [if_neg (show ¬ (false = true) by decide)] at H; exact H
  clear H
  have H := H1
  clear H1
  obtain rfl := Option.some.inj H
  go_enter Try.func22, Try.ntmps22
  go_wp2_with (first | ((with_reducible refine q0h (f := 18) rfl ?_); refine q0s (some 7) rfl rfl Try.func18 (by kernel_rfl) rfl #[.slice A0 l0.length c0, .slice A1 l1.length c1] rfl (by (try simp only [List.map_toArray, List.map_cons, List.map_nil]); first | done | rfl | (simp only [List.length_drop, List.length_take]; rfl)) ?_; (with_reducible refine (freshetref06_SameRows.calls k _ _ l0 _ _ l1 false _ ?side1 ?side2 ?side3 ?side4 A3.out).mono ?_); (case side1 => repeat (first | exact HR0.out | (with_reducible refine Kd.C_alloc ?_ _) | (with_reducible refine Kd.C_drewN ?_ _) | (with_reducible refine Kd.C_drew ?_))); (case side2 => exact HC0.out); (case side3 => repeat (first | exact HR1.out | (with_reducible refine Kd.C_alloc ?_ _) | (with_reducible refine Kd.C_drewN ?_ _) | (with_reducible refine Kd.C_drew ?_))); (case side4 => exact HC1.out); rintro e w' ⟨rfl, ⟨nd, rfl⟩⟩; refine ⟨_, rfl, ?_⟩))
  go_ret
  exact ⟨by first | rfl | (simp; done) | (simp [*]; done), by repeat (first | exact q0k.refl _ | apply q0k.step)⟩
end Go.Proofs.Ytaigmemmgjlhgaa.Print
-- RSum
namespace Go.Proofs.Ytaigmemmgjlhgaa.Print
open Go.RowKit PLink Txt Go.Proofs.YtaigmemmgjlhgaaW.PrintWords
theorem ref_h1_round (x : BitVec 32) (j : Int) (h0 : 0 ≤ j) (h3 : j < 3) (out : Int) (h : Ev (fun k => freshetref01_Hash.l1 k (I (PCrc.hmix x)) (j + 1)) out) : Ev (fun k => freshetref01_Hash.l1 k (I x) j) out := by
 refine Ev.step (fun k => ?_) h
 simp only [freshetref01_Hash.l1]
 rw [if_pos (by omega), q0u (by omega) (by omega), tdiv_word x 32768 (by omega), shr15_word, xor_word, mix_word]
theorem ref_h1_end (x : BitVec 32) : Ev (fun k => freshetref01_Hash.l1 k (I x) 3) (I x) := by
 refine Ev.step (f := fun _ => some (I x)) (fun k => ?_) (Ev.now _)
 simp only [freshetref01_Hash.l1]
 rw [if_neg (by omega)]
theorem ref_h1 (x : BitVec 32) : Ev (fun k => freshetref01_Hash.l1 k (I x) 0) (I (PCrc.hmix (PCrc.hmix (PCrc.hmix x)))) :=
 ref_h1_round x 0 (by omega) (by omega) _ (ref_h1_round _ 1 (by omega) (by omega) _ (ref_h1_round _ 2 (by omega) (by omega) _ (ref_h1_end _)))
theorem ref_h0 (s : ByteArray) (hs : s.size ≤ 9223372036854775806) (d : Nat) : ∀ (x : BitVec 32) (i : Nat), i + d = s.size → Ev (fun k => freshetref01_Hash.l0 k s (I x) i) (I (PCrc.hmix (PCrc.hmix (PCrc.hmix (((L s).drop i).foldl PCrc.hstep x))))) := by
 induction d with
 | zero =>
  intro x i hi
  have h := ref_h1 x
  rw [List.drop_of_length_le (by rw [q0g]; omega)]
  refine Ev.step (fun k => ?_) h
  simp only [freshetref01_Hash.l0]
  rw [if_neg (by omega)]
 | succ d ih =>
  intro x i hi
  have hlt : i < s.size := by omega
  have h := ih (PCrc.hstep x ((L s)[i]'(by rw [q0g]; exact hlt))) (i + 1) (by omega)
  rw [drop_at s hlt]
  refine Ev.step (fun k => ?_) h
  simp only [freshetref01_Hash.l0]
  rw [if_pos (by omega), if_pos (by omega), bt_get s (by omega) (by omega), q0u (by omega) (by omega)]
  simp only [Int.toNat_natCast]
  rw [byte_id, xor_byte, hstep_word, show ((i : Int) + 1) = ((i + 1 : Nat) : Int) by omega]
theorem ref_hash (r : BitVec 32) (s : ByteArray) (hs : s.size ≤ 9223372036854775806) : Ev (fun k => freshetref01_Hash.f k (I r) s) (I (PCrc.hash r (L s))) := by
 refine Ev.congr (fun k => ?_) (ref_h0 s hs s.size (r ^^^ 2166136261#32) 0 (by omega))
 unfold freshetref01_Hash.f
 rw [seed_word]
 rfl
end Go.Proofs.Ytaigmemmgjlhgaa.Print
-- Print20
namespace Go.Proofs.Ytaigmemmgjlhgaa.Print
open Go.RowKit Go.Proofs.YtaigmemmgjlhgaaW.PrintWords Go.Proofs.YtaigmemmgjlhgaaW.PrintLast Go.Proofs.YtaigmemmgjlhgaaW.PrintMore
attribute [local go_sem] q1d q1b q1t q1s q19 q17 q1c q1a
set_option linter.unusedVariables false
set_option linter.unusedSimpArgs false
def freshetref10_Bit.f (k : Nat) (a0 : ByteArray) (a1 : Int) (a2 : Int) : Option (Int) := (freshetref01_Hash.f k 2 a0).bind fun t265 => (if (Int.tmod t265 2) = 0 then ((freshetref01_Hash.f k 1 a0).bind fun t266 => (if a2 = 0 then (none) else (some (((t266 + ((((a1) % 4294967296) * ((t265 + 1) % 4294967296)) % 4294967296)) % 4294967296) % a2)))) else ((freshetref01_Hash.f k 1 a0).bind fun t267 => (if a2 = 0 then (none) else (some (((t267 + ((((a1) % 4294967296) * t265) % 4294967296)) % 4294967296) % a2)))))
theorem freshetref10_Bit.mono : ∀ a0 a1 a2 k, LeO (freshetref10_Bit.f k a0 a1 a2) (freshetref10_Bit.f (k + 1) a0 a1 a2) := by
 intro a0 a1 a2 k
 unfold freshetref10_Bit.f
 repeat' first
   | (with_reducible exact freshetref01_Hash.mono _ _ _)
   | (with_reducible exact LeO.refl _)
   | (with_reducible exact LeO.none _)
   | (with_reducible refine LeO.ite ?_ ?_)
   | (with_reducible refine LeO.bind ?_ (fun _ => ?_))
   | exact freshetref01_Hash.mono _ _ _
   | exact LeO.none _
   | refine LeO.ite ?_ ?_
   | refine LeO.bind ?_ (fun _ => ?_)
set_option maxHeartbeats 8000000 in
set_option maxRecDepth 100000 in
theorem freshetref10_Bit.calls (k : Nat) (a0 : ByteArray) (a1 : Int) (a2 : Int) (r : Int) (w : World) (h : freshetref10_Bit.f k a0 a1 a2 = some r) :
  Calls Try.prog 74 #[.string a0, .int .i64 a1, .int .u32 a2] w fun e w' => e = .returned (.int .u32 r) ∧ q0k w w' := by
 have H : ((freshetref01_Hash.f k 2 a0).bind fun t265 => (if (Int.tmod t265 2) = 0 then ((freshetref01_Hash.f k 1 a0).bind fun t266 => (if a2 = 0 then (none) else (some (((t266 + ((((a1) % 4294967296) * ((t265 + 1) % 4294967296)) % 4294967296)) % 4294967296) % a2)))) else ((freshetref01_Hash.f k 1 a0).bind fun t267 => (if a2 = 0 then (none) else (some (((t267 + ((((a1) % 4294967296) * t265) % 4294967296)) % 4294967296) % a2)))))) = some r := h
 clear h
 replace H := Option.bind_eq_some_iff.mp H
 obtain ⟨t265, A40, H⟩ := H
 replace H : (if (Int.tmod t265 2) = 0 then ((freshetref01_Hash.f k 1 a0).bind fun t266 => (if a2 = 0 then (none) else (some (((t266 + ((((a1) % 4294967296) * ((t265 + 1) % 4294967296)) % 4294967296)) % 4294967296) % a2)))) else ((freshetref01_Hash.f k 1 a0).bind fun t267 => (if a2 = 0 then (none) else (some (((t267 + ((((a1) % 4294967296) * t265) % 4294967296)) % 4294967296) % a2))))) = some r := H
 have A4 := q04.mk A40
 clear A40
 by_cases c5 : (Int.tmod t265 2) = 0
 ·rw [if_pos c5] at H
  have c5b0 : ((Int.tmod t265 2) == 0) = true := beq_iff_eq.mpr c5
  have c5b1 : ((Int.tmod t265 2) != 0) = false := bne_eq_false_iff_eq.mpr c5
  clear c5
  replace H := Option.bind_eq_some_iff.mp H
  obtain ⟨t266, A60, H⟩ := H
  replace H : (if a2 = 0 then (none) else (some (((t266 + ((((a1) % 4294967296) * ((t265 + 1) % 4294967296)) % 4294967296)) % 4294967296) % a2))) = some r := H
  have A6 := q04.mk A60
  clear A60
  by_cases c7 : a2 = 0
  ·rw [if_pos c7] at H
   exact absurd H (by simp)
  ·rw [if_neg c7] at H
   have c7b0 : (a2 == 0) = false := beq_eq_false_iff_ne.mpr c7
   have c7b1 : (a2 != 0) = true := bne_iff_ne.mpr c7
   obtain rfl := Option.some.inj H
   go_enter Try.func74, Try.ntmps74
   go_wp2_with (first | ((with_reducible refine q0h (f := 85) rfl ?_); refine q0s (some 9) rfl rfl Try.func85 (by kernel_rfl) rfl #[.int .u32 2, .string a0] rfl (by (try simp only [List.map_toArray, List.map_cons, List.map_nil]); first | done | rfl | (simp only [List.length_drop, List.length_take]; rfl)) ?_; (with_reducible refine (freshetref01_Hash.calls k 2 a0 t265 _ A4.out).mono ?_); rintro e w' ⟨rfl, ⟨nd, rfl⟩⟩; refine ⟨_, rfl, ?_⟩) | ((with_reducible refine q0h (f := 85) rfl ?_); refine q0s (some 16) rfl rfl Try.func85 (by kernel_rfl) rfl #[.int .u32 1, .string a0] rfl (by (try simp only [List.map_toArray, List.map_cons, List.map_nil]); first | done | rfl | (simp only [List.length_drop, List.length_take]; rfl)) ?_; (with_reducible refine (freshetref01_Hash.calls k 1 a0 t266 _ A6.out).mono ?_); rintro e w' ⟨rfl, ⟨nd, rfl⟩⟩; refine ⟨_, rfl, ?_⟩))
   go_ret
   exact ⟨by first | rfl | (simp; done) | (simp [*]; done), by repeat (first | exact q0k.refl _ | apply q0k.step)⟩
 ·rw [if_neg c5] at H
  have c5b0 : ((Int.tmod t265 2) == 0) = false := beq_eq_false_iff_ne.mpr c5
  have c5b1 : ((Int.tmod t265 2) != 0) = true := bne_iff_ne.mpr c5
  replace H := Option.bind_eq_some_iff.mp H
  obtain ⟨t267, A80, H⟩ := H
  replace H : (if a2 = 0 then (none) else (some (((t267 + ((((a1) % 4294967296) * t265) % 4294967296)) % 4294967296) % a2))) = some r := H
  have A8 := q04.mk A80
  clear A80
  by_cases c9 : a2 = 0
  ·rw [if_pos c9] at H
   exact absurd H (by simp)
  ·rw [if_neg c9] at H
   have c9b0 : (a2 == 0) = false := beq_eq_false_iff_ne.mpr c9
   have c9b1 : (a2 != 0) = true := bne_iff_ne.mpr c9
   obtain rfl := Option.some.inj H
   go_enter Try.func74, Try.ntmps74
   go_wp2_with (first | ((with_reducible refine q0h (f := 85) rfl ?_); refine q0s (some 9) rfl rfl Try.func85 (by kernel_rfl) rfl #[.int .u32 2, .string a0] rfl (by (try simp only [List.map_toArray, List.map_cons, List.map_nil]); first | done | rfl | (simp only [List.length_drop, List.length_take]; rfl)) ?_; (with_reducible refine (freshetref01_Hash.calls k 2 a0 t265 _ A4.out).mono ?_); rintro e w' ⟨rfl, ⟨nd, rfl⟩⟩; refine ⟨_, rfl, ?_⟩) | ((with_reducible refine q0h (f := 85) rfl ?_); refine q0s (some 16) rfl rfl Try.func85 (by kernel_rfl) rfl #[.int .u32 1, .string a0] rfl (by (try simp only [List.map_toArray, List.map_cons, List.map_nil]); first | done | rfl | (simp only [List.length_drop, List.length_take]; rfl)) ?_; (with_reducible refine (freshetref01_Hash.calls k 1 a0 t267 _ A8.out).mono ?_); rintro e w' ⟨rfl, ⟨nd, rfl⟩⟩; refine ⟨_, rfl, ?_⟩))
   go_ret
   exact ⟨by first | rfl | (simp; done) | (simp [*]; done), by repeat (first | exact q0k.refl _ | apply q0k.step)⟩
end Go.Proofs.Ytaigmemmgjlhgaa.Print
