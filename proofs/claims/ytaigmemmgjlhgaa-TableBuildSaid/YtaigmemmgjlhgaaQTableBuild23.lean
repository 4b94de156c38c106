/- Texts of this claim, joined by a program of this session (wip/pack.py): TabG, TabQ, TabH, TabW. -/
import Derived.RangeFuncBox
import Derived.RangeFuncLeaves
import Derived.RangeFuncNested
import Derived.Shelf.Abstract
import Derived.WalkKit
import Derived.OwnWalkIn
import Derived.TacticsInMore
import Derived.LoopNIn
import Derived.LoopIn
import Derived.Maps.AppendAt
import Derived.WalkLawsBesides
import Derived.Test.YtaigmemmgjlhgaaQTableBuild22
-- TabG
namespace Go.Proofs.Ytaigmemmgjlhgaa.Tab
open Go.RowKit Go.Shelf Aid Txt Print PLink Block Bits Go.Proofs.YtaigmemmgjlhgaaW.PrintWords
structure GI (w wr : World) (bt b1 b2 b9 b4 b5 : Nat) (key : ByteArray) (q : Int) : Prop where
 low : Below w.heap.size w wr
 x1 : Blk wr b1 23 #[.pointer (some ⟨bt, 0, none⟩)]
 x2 : Blk wr b2 66 #[.func (.func 28) #[] #[.pointer (some ⟨b9, 0, none⟩)]]
 x9 : Blk wr b9 60 #[.func (.func 26) #[] #[.pointer (some ⟨b4, 0, none⟩), .pointer (some ⟨b5, 0, none⟩)]]
 x4 : Blk wr b4 9 #[.string key]
 x5 : Blk wr b5 22 #[.int .u64 q]
theorem GI.below {w wr w' : World} {bt b1 b2 b9 b4 b5 : Nat} {key : ByteArray} {q : Int} (h : GI w wr bt b1 b2 b9 b4 b5 key q) (hb : Below wr.heap.size wr w') : GI w w' bt b1 b2 b9 b4 b5 key q :=
 ⟨q0d h.low hb, h.x1.below hb h.x1.lt, h.x2.below hb h.x2.lt, h.x9.below hb h.x9.lt, h.x4.below hb h.x4.lt, h.x5.below hb h.x5.lt⟩
theorem q0l {W : World} {g l : Nat} {t : TypeId} {cs : Array Value} {o o' : Obj} (h : Blk W g t cs) (hl : W.heap[l]? = some o) (ho : o.isCells = false) : Blk (W.putObj l o') g t cs := by
 have hne : g ≠ l := fun e => by
  subst e
  unfold Blk at h
  rw [h] at hl
  injection hl with hl
  subst hl
  cases ho
 exact h.grown (grownBy_putObj' W l o') (fun e => by injection e with e; exact hne e)
theorem GI.put {w wr : World} {bt b1 b2 b9 b4 b5 : Nat} {key : ByteArray} {q : Int} (h : GI w wr bt b1 b2 b9 b4 b5 key q) {l : Nat} {o : Obj} (o' : Obj) (hw : w.heap.size ≤ l) (hl : wr.heap[l]? = some o) (ho : o.isCells = false) : GI w (wr.putObj l o') bt b1 b2 b9 b4 b5 key q :=
 ⟨h.low.trans ((Below.refl _ wr).grown (grownBy_putObj' wr l o') (by have := (Array.getElem?_eq_some_iff.1 hl).1; omega) (fun k e => by cases e; omega)), q0l h.x1 hl ho, q0l h.x2 hl ho, q0l h.x9 hl ho, q0l h.x4 hl ho, q0l h.x5 hl ho⟩
def q1v (key : ByteArray) (q : Int) (k : ByteArray) (seq : Int) : Bool := PCode.lt (L key) (L k) || (k.toList == key.toList && decide (seq ≤ q))
section
variable {w : World} {b9 b4 b5 : Nat} {key : ByteArray} {q : Int}
theorem behind_any (x4 : Blk w b4 9 #[.string key]) (x5 : Blk w b5 22 #[.int .u64 q]) (k : ByteArray) (seq : Int) :
  Calls Try.prog 26 #[.string k, .int .u64 seq, .pointer (some ⟨b4, 0, none⟩), .pointer (some ⟨b5, 0, none⟩)] w fun e w' => e = .returned (.bool (q1v key q k seq)) ∧ w = w' := by
 have c4 := (x4.cell 0).trans rfl
 have c5 := (x5.cell 0).trans rfl
 have hlt : ∀ x y : ByteArray, PCode.lt (L x) (L y) = Op.bytesLess x.toList y.toList := fun x y => by rw [Print.L_toList, Print.L_toList]
 unfold q1v
 rw [hlt]
 clear hlt
 obtain ⟨le_, hle⟩ : ∃ le_, decide (seq ≤ q) = le_ := ⟨_, rfl⟩
 rw [hle]
 have l3 := less_gt k.toList key.toList
 cases h1 : Op.bytesLess key.toList k.toList with
 | true =>
  have l1 := less_anti h1
  have l2 := less_ne2 h1
  rw [h1] at l3
  go_enter Try.func26, Try.ntmps26
  go_wp2_with fail
  go_ret
  exact ⟨rfl, rfl⟩
 | false =>
  rw [h1] at l3
  cases h2 : (k.toList == key.toList) with
  | true =>
   have e : k.toList = key.toList := beq_iff_eq.1 h2
   have l1 : Op.bytesLess k.toList key.toList = false := by rw [e]; exact less_refl _
   cases le_
   all_goals
    go_enter Try.func26, Try.ntmps26
    go_wp2_with fail
    go_ret
    exact ⟨rfl, rfl⟩
  | false =>
   have l1 : Op.bytesLess k.toList key.toList = true := by
    rw [h2] at l3
    simpa using l3
   go_enter Try.func26, Try.ntmps26
   go_wp2_with fail
   go_ret
   exact ⟨rfl, rfl⟩
theorem pleases_any (x9 : Blk w b9 60 #[.func (.func 26) #[] #[.pointer (some ⟨b4, 0, none⟩), .pointer (some ⟨b5, 0, none⟩)]]) (x4 : Blk w b4 9 #[.string key]) (x5 : Blk w b5 22 #[.int .u64 q]) (p : S65) :
  Calls Try.prog 28 #[partV p, .pointer (some ⟨b9, 0, none⟩)] w fun e w' => e = .returned (.bool (q1v key q p.f1 p.f2)) ∧ Below w.heap.size w w' := by
 have c9 := (x9.cell 0).trans rfl
 have l9 := x9.lt
 have HB := Lib.hid (fun w' (y4 : Blk w' b4 9 #[.string key]) (y5 : Blk w' b5 22 #[.int .u64 q]) => behind_any y4 y5 p.f1 p.f2)
 have y4 := x4.alloc (.cells #[.string p.f0, .string p.f1, .int .u64 p.f2, .int .i64 p.f3, .int .i64 p.f4, .int .i64 p.f5] 65)
 have y5 := x5.alloc (.cells #[.string p.f0, .string p.f1, .int .u64 p.f2, .int .i64 p.f3, .int .i64 p.f4, .int .i64 p.f5] 65)
 go_enter Try.func28, Try.ntmps28
 go_wp2_with fail
 refine (HB.out _ y4 y5).mono ?_
 rintro e w' ⟨rfl, rfl⟩
 go_wp2_with fail
 go_ret
 exact ⟨rfl, (Below.refl _ _).alloc (Nat.le_refl _) _⟩
end
theorem from_any (p : Option Addr) (fn : Fn) (fr lb : Array Value) (w : World) :
  Calls Try.prog 27 #[.pointer p, .func fn fr lb] w fun e w' => e = .returned (.func (.func 54) #[] #[.pointer (some ⟨w.heap.size, 0, none⟩), .pointer (some ⟨w.heap.size + 1, 0, none⟩)]) ∧ w' = (w.alloc (.cells #[.pointer p] 23)).alloc (.cells #[.func fn fr lb] 66) := by
 refine (callsIn_wide (n := 2)).1 ?_
 refine callsIn_of_wp Try.func27 rfl trivial ?_ rfl
 simp only [Try.ntmps27, List.size_toArray, List.length_cons, List.length_nil, Nat.reduceAdd, Nat.reduceSub, Array.replicate_succ, Array.replicate_zero, List.push_toArray, List.append_toArray, List.nil_append, List.cons_append]
 gi_wp2
 go_ret
 exact ⟨rfl, rfl⟩
abbrev valsP (x : S65) : Array Value := #[partV x]
set_option maxRecDepth 100000 in
set_option maxHeartbeats 4000000 in
theorem from1_in (n : Nat) (hn : 1 ≤ n) (l : Nat) (bt b1 b2 b9 b4 b5 : Nat) (s f : ByteArray) (A : Option Addr) (c : Nat) {α : Type} (enc : α → S65) (xs : List α) (hps : xs.length ≤ 1000000) (key : ByteArray) (q : Int) (J Jx : List α → World → Prop) (W : World) (hJ : AbidesFrom W.heap.size J) (w : World) (HA : At w bt s f A c (xs.map enc)) (hG : GI w W bt b1 b2 b9 b4 b5 key q)
  (hY : ∀ pre x W, J pre W → pre.length < xs.length → YieldAt Fence.wide (n - 1) Try.prog l (valsP (enc x)) W fun e W' =>
   (e = .returned (.bool true) ∧ J (pre ++ [x]) W' ∧ (GI w W bt b1 b2 b9 b4 b5 key q → GI w W' bt b1 b2 b9 b4 b5 key q)) ∨ (e = .returned (.bool false) ∧ Jx (pre ++ [x]) W'))
  (h0 : J [] W) :
  CallsIn Fence.wide n Try.prog 54 #[.func (.yield l) #[] #[], .pointer (some ⟨b1, 0, none⟩), .pointer (some ⟨b2, 0, none⟩)] W fun e W' => (∃ v, e = .returned v) ∧
   ((∃ ys, ys = xs.dropWhile (fun p => !q1v key q (enc p).f1 (enc p).f2) ∧ J ys W') ∨ (∃ pre, (pre ≠ [] ∧ ∃ r, xs.dropWhile (fun p => !q1v key q (enc p).f1 (enc p).f2) = pre ++ r) ∧ Jx pre W')) := by
 have HY := Lib.hid hY
 have HJ := Lib.hid hJ
 have HAA := Lib.hid HA
 have hG0 := HA.below hG.low
 clear hY hJ HA
 have c1 := (hG.x1.cell 0).trans rfl
 have c2 := (hG0.blk.cell 2).trans rfl
 have l1 := hG.x1.lt
 have l2 := hG0.blk.lt
 refine callsIn_of_wp Try.func54 rfl trivial ?_ rfl
 simp only [Try.ntmps54, List.size_toArray, List.length_cons, List.length_nil, Nat.reduceAdd, Nat.reduceSub, Array.replicate_succ, Array.replicate_zero, List.push_toArray, List.append_toArray, List.nil_append, List.cons_append]
 gi_wp2
 obtain ⟨D, hD⟩ : ∃ D, xs.dropWhile (fun p => !q1v key q (enc p).f1 (enc p).f2) = D := ⟨_, rfl⟩
 have HD := Lib.hid hD
 clear hD c1 c2 l1 l2
 gi_loopw [4, 12] (fun v4 v12 wr => ∃ (i : Nat) (on : Bool) (pre : List α), i ≤ xs.length ∧ v12 = .int .i64 i ∧ v4 = .bool on ∧ J pre wr ∧ GI w wr bt b1 b2 b9 b4 b5 key q ∧ pre.length ≤ i ∧ ((on = false ∧ pre = [] ∧ (xs.drop i).dropWhile (fun p => !q1v key q (enc p).f1 (enc p).f2) = D) ∨ (on = true ∧ D = pre ++ xs.drop i)))
  (fun _ v12 _ => xs.length - (intOf v12).toNat)
 case atStart => exact ⟨0, false, [], by omega, rfl, rfl, h0, hG, by simp, .inl ⟨rfl, rfl, HD.out⟩⟩
 case round =>
  obtain ⟨i, on, pre, hi, rfl, rfl, hJs, hGr, hpl, hst⟩ := hrel
  by_cases hlt : i < xs.length
  ·have t1 : ((i : Int) < (xs.length : Int)) = True := eq_true (by omega)
   obtain ⟨ad, rfl, k0, k1, k2, k3, k4, k5⟩ := at_T65 (HAA.out.below hGr.low).row (i : Int) (by omega) (by rw [List.length_map]; omega)
   rw [at_P (xs.map enc) i (by rw [List.length_map]; exact hlt), List.getElem_map, Int.toNat_natCast] at k0 k1 k2 k3 k4 k5
   have hdr : xs.drop i = xs[i] :: xs.drop (i + 1) := List.drop_eq_getElem_cons hlt
   rw [hdr] at hst
   generalize xs[i] = y at k0 k1 k2 k3 k4 k5 hst
   obtain ⟨p, hp⟩ : ∃ p, enc y = p := ⟨_, rfl⟩
   rw [hp] at k0 k1 k2 k3 k4 k5
   have PL := Lib.hid (fun w' (g : GI w w' bt b1 b2 b9 b4 b5 key q) => pleases_any g.x9 g.x4 g.x5 p)
   have BX := Blk.new wr 65 #[.string p.f0, .string p.f1, .int .u64 p.f2, .int .i64 p.f3, .int .i64 p.f4, .int .i64 p.f5]
   have hbx := (Below.refl wr.heap.size wr).alloc (Nat.le_refl _) (.cells #[.string p.f0, .string p.f1, .int .u64 p.f2, .int .i64 p.f3, .int .i64 p.f4, .int .i64 p.f5] 65)
   have hG1 := hGr.below hbx
   have d2 := (hG1.x2.cell 0).trans rfl
   have e2 := hG1.x2.lt
   have HST := Lib.hid hst
   clear hst hdr
   cases on with
   | false =>
    obtain ⟨rfl, hdw⟩ : pre = [] ∧ (y :: xs.drop (i + 1)).dropWhile (fun p => !q1v key q (enc p).f1 (enc p).f2) = D := by
     rcases HST.out with h | h
     ·exact h.2
     ·cases h.1
    rw [List.dropWhile_cons, hp] at hdw
    have HDW := Lib.hid hdw
    clear hdw HST
    cases hbe : q1v key q p.f1 p.f2 with
    | true =>
     rw [hbe] at PL
     have hDe : D = y :: xs.drop (i + 1) := by have := HDW.out; rw [hbe] at this; exact this.symm
     have HDE := Lib.hid hDe
     clear hDe HDW
     gi_wp2_with (first | (refine ⟨trivial, ?_⟩; gi_at_call 28; refine (callsIn_wide.2 (PL.out _ hG1)).mono ?_; rintro e w2 ⟨rfl, hb⟩; have hb2 := q0d hbx hb; have hG2 := hGr.below hb2; have BX2 := BX.below hb BX.lt; have r0 := (BX2.cell 0).trans rfl; have r1 := (BX2.cell 1).trans rfl; have r2 := (BX2.cell 2).trans rfl; have r3 := (BX2.cell 3).trans rfl; have r4 := (BX2.cell 4).trans rfl; have r5 := (BX2.cell 5).trans rfl; have hJ2 := HJ.out _ wr w2 none hJs (q1y hb2 none) (fun r h => by cases h); obtain ⟨fn, tmps, assign, body, hy, hR⟩ := HY.out [] y w2 hJ2 (by simp; omega); simp only [valsP, hp] at hy))
     refine hR.mono ?_
     rintro e W3 (⟨rfl, hJ3, hk3⟩ | ⟨rfl, hJx3⟩)
     ·have hG3 := hk3 hG2
      gi_wp2
      go_roundw
      case rel => exact ⟨i + 1, true, _, by omega, by go_num, rfl, hJ3, hG3, by first | (simp; done) | (simp; omega), .inr ⟨rfl, HDE.out⟩⟩
      case measure => simp [intOf]; omega
     ·gi_wp2
      refine bodyPost_ret (results_none rfl _ _ _) rfl ?_
      exact ⟨⟨_, rfl⟩, .inr ⟨_, ⟨by simp, xs.drop (i + 1), by rw [HD.out, HDE.out]; rfl⟩, hJx3⟩⟩
    | false =>
     rw [hbe] at PL
     have hDe : (xs.drop (i + 1)).dropWhile (fun p => !q1v key q (enc p).f1 (enc p).f2) = D := by have := HDW.out; rw [hbe] at this; exact this
     have HDE := Lib.hid hDe
     clear hDe HDW
     gi_wp2_with (first | (refine ⟨trivial, ?_⟩; gi_at_call 28; refine (callsIn_wide.2 (PL.out _ hG1)).mono ?_; rintro e w2 ⟨rfl, hb⟩; have hb2 := q0d hbx hb; have hG2 := hGr.below hb2; have BX2 := BX.below hb BX.lt; have r0 := (BX2.cell 0).trans rfl; have r1 := (BX2.cell 1).trans rfl; have r2 := (BX2.cell 2).trans rfl; have r3 := (BX2.cell 3).trans rfl; have r4 := (BX2.cell 4).trans rfl; have r5 := (BX2.cell 5).trans rfl; have hJ2 := HJ.out _ wr w2 none hJs (q1y hb2 none) (fun r h => by cases h)))
     refine ⟨fun f h => (by cases h), ?_⟩
     rename_i K a rr hh ww ee
     refine a _ _ ?_
     gi_wp2
     go_roundw
     case rel => exact ⟨i + 1, false, [], by omega, by go_num, rfl, hJ2, hG2, by simp, .inl ⟨rfl, rfl, HDE.out⟩⟩
     case measure => simp [intOf]; omega
   | true =>
    have hDe : D = pre ++ (y :: xs.drop (i + 1)) := by
     rcases HST.out with h | h
     ·cases h.1
     ·exact h.2
    have HDE := Lib.hid hDe
    clear hDe HST
    have hG2 := hG1
    have BX2 := BX
    have r0 := (BX2.cell 0).trans rfl
    have r1 := (BX2.cell 1).trans rfl
    have r2 := (BX2.cell 2).trans rfl
    have r3 := (BX2.cell 3).trans rfl
    have r4 := (BX2.cell 4).trans rfl
    have r5 := (BX2.cell 5).trans rfl
    have hJ2 := HJ.out _ wr _ none hJs (q1y hbx none) (fun r h => by cases h)
    obtain ⟨fn, tmps, assign, body, hy, hR⟩ := HY.out pre y _ hJ2 (by omega)
    simp only [valsP, hp] at hy
    gi_wp2
    refine ⟨fun f h => (by cases h), ?_⟩
    rename_i K a rr hh ww ee
    refine a _ _ ?_
    gi_wp2
    refine hR.mono ?_
    rintro e W3 (⟨rfl, hJ3, hk3⟩ | ⟨rfl, hJx3⟩)
    ·have hG3 := hk3 hG2
     gi_wp2
     go_roundw
     case rel => exact ⟨i + 1, true, _, by omega, by go_num, rfl, hJ3, hG3, by first | (simp; done) | (simp; omega), .inr ⟨rfl, by rw [HDE.out]; simp⟩⟩
     case measure => simp [intOf]; omega
    ·gi_wp2
     refine bodyPost_ret (results_none rfl _ _ _) rfl ?_
     exact ⟨⟨_, rfl⟩, .inr ⟨_, ⟨by simp, xs.drop (i + 1), by rw [HD.out, HDE.out]; simp⟩, hJx3⟩⟩
  ·have t1 : ((i : Int) < (xs.length : Int)) = False := eq_false (by omega)
   obtain rfl : i = xs.length := by omega
   rw [List.drop_length] at hst
   have hxs : D = pre := by
    rcases hst with ⟨_, h2, h3⟩ | ⟨_, h⟩
    ·rw [← h3, h2]; rfl
    ·rw [h]; simp
   have HXS := Lib.hid hxs
   clear hxs hst
   gi_wp2
   refine bodyPost_end (results_none rfl _ _ _) rfl ?_
   exact ⟨⟨_, rfl⟩, .inl ⟨pre, by rw [HD.out, HXS.out], hJs⟩⟩
theorem from_stops {α : Type} (enc : α → S65) (xs : List α) (hps : xs.length ≤ 1000000) (n : Nat) (hn : 1 ≤ n) (bt b1 b2 b9 b4 b5 : Nat) (s f : ByteArray) (A : Option Addr) (c : Nat) (key : ByteArray) (q : Int) (w W0 : World) (HA : At w bt s f A c (xs.map enc)) (hG : GI w W0 bt b1 b2 b9 b4 b5 key q) :
  SeqStopsK Fence.wide n Try.prog 54 #[.pointer (some ⟨b1, 0, none⟩), .pointer (some ⟨b2, 0, none⟩)] (fun x : α => valsP (enc x)) (fun W W' => GI w W bt b1 b2 b9 b4 b5 key q → GI w W' bt b1 b2 b9 b4 b5 key q) (fun ys => ys = xs.dropWhile (fun p => !q1v key q (enc p).f1 (enc p).f2)) (fun pre => pre ≠ [] ∧ ∃ r, xs.dropWhile (fun p => !q1v key q (enc p).f1 (enc p).f2) = pre ++ r) xs.length W0 :=
 fun l J Jx W hW hJ _ hY h0 => from1_in n hn l bt b1 b2 b9 b4 b5 s f A c enc xs hps key q J Jx W hJ w HA (hG.below hW) hY h0
end Go.Proofs.Ytaigmemmgjlhgaa.Tab
-- TabQ
namespace Go.Proofs.Ytaigmemmgjlhgaa.Tab
open Go.RowKit Go.Shelf Aid Txt Print PLink Block Bits Go.Proofs.YtaigmemmgjlhgaaW.PrintWords
attribute [local go_sem] Oper.semAt_some
theorem run_store_func {P : Program} {w : World} {a : Addr} {m : Mode} (fn : Fn) (x y : Array Value) : (store a (.func fn x y) m).run P w = stored P w a (.func fn x y) m := run_store P w a _ m rfl
attribute [local go_sem] run_store_func
abbrev rowV (r : S28) : Value := .agg #[.string r.f0, .int .u64 r.f1, .int .i64 r.f2, .string r.f3]
def getV (o : PBlock.Row × Bool × Nat) : Value := .tuple #[rowV (rowB o.1), .bool o.2.1, .int .i64 (o.2.2 : Nat)]
def hasB (F k : List UInt8) : Bool := Bloom.has (Txt.B F) (Txt.B k)
theorem At.below_of {w w' : World} {b : Nat} {s f : ByteArray} {A : Option Addr} {c : Nat} {ps : List S65} (h : At w b s f A c ps) (hb : Below w.heap.size w w') : At w' b s f A c ps := h.below hb
structure GB (w wr : World) (bt : Nat) (key : ByteArray) (n : Int) (r : S28) (b : Bool) (e : Int) : Prop where
 x3 : Blk wr w.heap.size 23 #[.pointer (some ⟨bt, 0, none⟩)]
 x4 : Blk wr (w.heap.size + 1) 9 #[.string key]
 x5 : Blk wr (w.heap.size + 1 + 1) 22 #[.int .u64 n]
 x6 : Blk wr (w.heap.size + 1 + 1 + 1) 28 #[.string r.f0, .int .u64 r.f1, .int .i64 r.f2, .string r.f3]
 x7 : Blk wr (w.heap.size + 1 + 1 + 1 + 1) 4 #[.bool b]
 x8 : Blk wr (w.heap.size + 1 + 1 + 1 + 1 + 1) 29 #[.int .i64 e]
 low : Below w.heap.size w wr
theorem GB.below {w wr w' : World} {bt : Nat} {key : ByteArray} {n : Int} {r : S28} {b : Bool} {e : Int} (h : GB w wr bt key n r b e) (hb : Below wr.heap.size wr w') : GB w w' bt key n r b e :=
 ⟨h.x3.below hb h.x3.lt, h.x4.below hb h.x4.lt, h.x5.below hb h.x5.lt, h.x6.below hb h.x6.lt, h.x7.below hb h.x7.lt, h.x8.below hb h.x8.lt, q0d h.low hb⟩
theorem q0y {W W' : World} {g : Nat} {t : TypeId} {cs : Array Value} {row : Option Nat} (h : Blk W g t cs) (hg : W.grownBy W' row) (hr : ∀ r, row = some r → ∃ o : Obj, W.heap[r]? = some o ∧ o.isCells = false) : Blk W' g t cs := by
 refine h.grown hg fun e => ?_
 obtain ⟨o, ho, hc⟩ := hr g e.symm
 unfold Blk at h
 rw [h] at ho
 injection ho with ho
 subst ho
 cases hc
theorem low_own {w wr w' : World} {row : Option Nat} (h : Below w.heap.size w wr) (hg : wr.grownBy w' row) (hr : ∀ r, row = some r → w.heap.size ≤ r) : Below w.heap.size w w' :=
 h.trans ((Below.refl _ wr).grown hg h.size (fun k e => hr k e))
theorem GB.own {w wr w' : World} {bt : Nat} {key : ByteArray} {n : Int} {r : S28} {b : Bool} {e : Int} {row : Option Nat} (h : GB w wr bt key n r b e) (hg : wr.grownBy w' row) (hr : ∀ r, row = some r → w.heap.size ≤ r ∧ ∃ o : Obj, wr.heap[r]? = some o ∧ o.isCells = false) : GB w w' bt key n r b e :=
 ⟨q0y h.x3 hg (fun r e => (hr r e).2), q0y h.x4 hg (fun r e => (hr r e).2), q0y h.x5 hg (fun r e => (hr r e).2), q0y h.x6 hg (fun r e => (hr r e).2), q0y h.x7 hg (fun r e => (hr r e).2), q0y h.x8 hg (fun r e => (hr r e).2), low_own h.low hg (fun r e => (hr r e).1)⟩
theorem GI.own {w wr w' : World} {bt b1 b2 b9 b4 b5 : Nat} {key : ByteArray} {q : Int} {row : Option Nat} (h : GI w wr bt b1 b2 b9 b4 b5 key q) (hg : wr.grownBy w' row) (hr : ∀ r, row = some r → w.heap.size ≤ r ∧ ∃ o : Obj, wr.heap[r]? = some o ∧ o.isCells = false) : GI w w' bt b1 b2 b9 b4 b5 key q :=
 ⟨low_own h.low hg (fun r e => (hr r e).1), q0y h.x1 hg (fun r e => (hr r e).2), q0y h.x2 hg (fun r e => (hr r e).2), q0y h.x9 hg (fun r e => (hr r e).2), q0y h.x4 hg (fun r e => (hr r e).2), q0y h.x5 hg (fun r e => (hr r e).2)⟩
def outOf (s key : List UInt8) (n : Nat) (p : PTable.Part) : PBlock.Row × Bool × Nat :=
 match PTable.readT s p with
 | none => (PTable.zeroRow, false, 10)
 | some l => match l.find? (fun r => PTable.behind key n r.key r.seq) with
  | none => (PTable.zeroRow, false, 0)
  | some r => if r.key = key then (r, true, 0) else (PTable.zeroRow, false, 0)
theorem find_drop {α : Type} (g : α → Bool) (l : List α) : l.find? g = (l.dropWhile (fun a => !g a)).head? := by
 induction l with
 | nil => rfl
 | cons a l ih =>
  rw [List.find?_cons, List.dropWhile_cons]
  cases g a <;> simp [ih]
theorem behindB_eq (key : ByteArray) (n : Nat) (k : List UInt8) (seq : Nat) : q1v key (n : Int) (Txt.B k) (seq : Int) = PTable.behind (L key) n k seq := by
 unfold q1v PTable.behind
 rw [L_B, Print.L_toList, Print.L_toList, L_B]
 congr 2
 exact decide_eq_decide.2 (by omega)
theorem get_of (F : List UInt8) (s key : List UInt8) (n : Nat) (pts : List PTable.Part) (h : hasB F key = true) : PTable.get hasB ⟨s, F, pts⟩ key n = match pts.find? (fun p => PTable.behind key n p.last p.seq) with | none => (PTable.zeroRow, false, 0) | some p => outOf s key n p := by
 unfold PTable.get outOf
 rw [if_neg (by simp [h])]
 cases pts.find? (fun p => PTable.behind key n p.last p.seq) with
 | none => rfl
 | some p =>
  cases PTable.readT s p with
  | none => rfl
  | some l => cases l.find? (fun r => PTable.behind key n r.key r.seq) <;> rfl
theorem find_attach (pts : List PTable.Part) (g : PTable.Part → Bool) : pts.find? g = ((pts.attach.dropWhile (fun a => !g a.1)).head?).map (·.1) := by
 rw [← find_drop (fun a : {p // p ∈ pts} => g a.1)]
 conv => lhs; rw [← List.attach_map_subtype_val pts]
 rw [List.find?_map]
 rfl
def wrote (w wr : World) (r : S28) (b : Bool) (e : Int) : World := (((((wr.setCell ⟨w.heap.size + 1 + 1 + 1, 0, none⟩ (.string r.f0)).setCell ⟨w.heap.size + 1 + 1 + 1, 1, none⟩ (.int .u64 r.f1)).setCell ⟨w.heap.size + 1 + 1 + 1, 2, none⟩ (.int .i64 r.f2)).setCell ⟨w.heap.size + 1 + 1 + 1, 3, none⟩ (.string r.f3)).setCell ⟨w.heap.size + 1 + 1 + 1 + 1, 0, none⟩ (.bool b)).setCell ⟨w.heap.size + 1 + 1 + 1 + 1 + 1, 0, none⟩ (.int .i64 e)
theorem wrote_size (w wr : World) (r : S28) (b : Bool) (e : Int) : (wrote w wr r b e).heap.size = wr.heap.size := by unfold wrote; simp only [World.size_setCell]
theorem wrote_far (w wr : World) (r : S28) (b : Bool) (e : Int) (k : Nat) (h : k < w.heap.size + 3 ∨ w.heap.size + 6 ≤ k) : (wrote w wr r b e).heap[k]? = wr.heap[k]? := by
 unfold wrote
 rw [Below.heap_setCell _ _ _ _ (by show k ≠ w.heap.size + 1 + 1 + 1 + 1 + 1; omega), Below.heap_setCell _ _ _ _ (by show k ≠ w.heap.size + 1 + 1 + 1 + 1; omega), Below.heap_setCell _ _ _ _ (by show k ≠ w.heap.size + 1 + 1 + 1; omega), Below.heap_setCell _ _ _ _ (by show k ≠ w.heap.size + 1 + 1 + 1; omega), Below.heap_setCell _ _ _ _ (by show k ≠ w.heap.size + 1 + 1 + 1; omega), Below.heap_setCell _ _ _ _ (by show k ≠ w.heap.size + 1 + 1 + 1; omega)]
theorem keeps_wrote {w W w5 : World} {B : Nat} (hb : Below W.heap.size W w5) (h8 : w.heap.size + 6 ≤ B) (r : S28) (b : Bool) (e : Int) : KeepsFrom B W (wrote w w5 r b e) :=
 ⟨by rw [wrote_size]; exact hb.size, fun k _ hB hk _ => (wrote_far w w5 r b e k (.inr (by omega))).trans ((hb.block k (Array.getElem?_eq_some_iff.1 hk).1).trans hk)⟩
theorem readT_len {s : List UInt8} {p : PTable.Part} {l : List PBlock.Row} (h : PTable.readT s p = some l) : l.length = p.rows := by
 unfold PTable.readT at h
 dsimp only at h
 split at h
 ·rename_i hc
  injection h with h
  rw [← h]
  exact hc.2.2.1
 ·cases h
theorem keeps_below {W w5 : World} {B : Nat} (hb : Below W.heap.size W w5) : KeepsFrom B W w5 :=
 ⟨hb.size, fun k _ _ hk _ => (hb.block k (Array.getElem?_eq_some_iff.1 hk).1).trans hk⟩
theorem GB.write {w wr : World} {bt : Nat} {key : ByteArray} {n : Int} {r : S28} {b : Bool} {e : Int} (h : GB w wr bt key n r b e) (r' : S28) (b' : Bool) (e' : Int) : GB w (wrote w wr r' b' e') bt key n r' b' e' := by
 unfold wrote
 refine ⟨?_, ?_, ?_, ?_, ?_, ?_, ?_⟩
 ·exact (((((h.x3.far (by dsimp only; omega) _).far (by dsimp only; omega) _).far (by dsimp only; omega) _).far (by dsimp only; omega) _).far (by dsimp only; omega) _).far (by dsimp only; omega) _
 ·exact (((((h.x4.far (by dsimp only; omega) _).far (by dsimp only; omega) _).far (by dsimp only; omega) _).far (by dsimp only; omega) _).far (by dsimp only; omega) _).far (by dsimp only; omega) _
 ·exact (((((h.x5.far (by dsimp only; omega) _).far (by dsimp only; omega) _).far (by dsimp only; omega) _).far (by dsimp only; omega) _).far (by dsimp only; omega) _).far (by dsimp only; omega) _
 ·exact (((((h.x6.set_ 0 _).set_ 1 _).set_ 2 _).set_ 3 _).far (by dsimp only; omega) _).far (by dsimp only; omega) _
 ·exact (((((h.x7.far (by dsimp only; omega) _).far (by dsimp only; omega) _).far (by dsimp only; omega) _).far (by dsimp only; omega) _).set_ 0 _).far (by dsimp only; omega) _
 ·exact (((((h.x8.far (by dsimp only; omega) _).far (by dsimp only; omega) _).far (by dsimp only; omega) _).far (by dsimp only; omega) _).far (by dsimp only; omega) _).set_ 0 _
 ·exact (((((h.low.setCell (by show w.heap.size ≤ w.heap.size + 1 + 1 + 1; omega) _).setCell (by show w.heap.size ≤ w.heap.size + 1 + 1 + 1; omega) _).setCell (by show w.heap.size ≤ w.heap.size + 1 + 1 + 1; omega) _).setCell (by show w.heap.size ≤ w.heap.size + 1 + 1 + 1; omega) _).setCell (by show w.heap.size ≤ w.heap.size + 1 + 1 + 1 + 1; omega) _).setCell (by show w.heap.size ≤ w.heap.size + 1 + 1 + 1 + 1 + 1; omega) _
theorem GB.new (w : World) (bt : Nat) (key : ByteArray) (n : Int) :
  GB w ((((((w.alloc (.cells #[.pointer (some ⟨bt, 0, none⟩)] 23)).alloc (.cells #[.string key] 9)).alloc (.cells #[.int .u64 n] 22)).alloc (.cells #[.string ⟨#[]⟩, .int .u64 0, .int .i64 0, .string ⟨#[]⟩] 28)).alloc (.cells #[.bool false] 4)).alloc (.cells #[.int .i64 0] 29)) bt key n ⟨⟨#[]⟩, 0, 0, ⟨#[]⟩⟩ false 0 := by
 generalize h1 : w.alloc (.cells #[.pointer (some ⟨bt, 0, none⟩)] 23) = w1
 have e1 : w1.heap.size = w.heap.size + 1 := by rw [← h1]; simp
 have a3 : Blk w1 w.heap.size 23 #[.pointer (some ⟨bt, 0, none⟩)] := by rw [← h1]; exact Blk.new w _ _
 have b1 : Below w.heap.size w w1 := by rw [← h1]; exact (Below.refl _ w).alloc (Nat.le_refl _) _
 generalize h2 : w1.alloc (.cells #[.string key] 9) = w2
 have e2 : w2.heap.size = w.heap.size + 1 + 1 := by rw [← h2, World.size_alloc, e1]
 have a4 : Blk w2 (w.heap.size + 1) 9 #[.string key] := by rw [← h2, ← e1]; exact Blk.new w1 _ _
 have a3 : Blk w2 w.heap.size 23 #[.pointer (some ⟨bt, 0, none⟩)] := by rw [← h2]; exact a3.alloc _
 have b2 : Below w.heap.size w w2 := by rw [← h2]; exact b1.alloc b1.size _
 generalize h3 : w2.alloc (.cells #[.int .u64 n] 22) = w3
 have e3 : w3.heap.size = w.heap.size + 1 + 1 + 1 := by rw [← h3, World.size_alloc, e2]
 have a5 : Blk w3 (w.heap.size + 1 + 1) 22 #[.int .u64 n] := by rw [← h3, ← e2]; exact Blk.new w2 _ _
 have a3 : Blk w3 w.heap.size 23 #[.pointer (some ⟨bt, 0, none⟩)] := by rw [← h3]; exact a3.alloc _
 have a4 : Blk w3 (w.heap.size + 1) 9 #[.string key] := by rw [← h3]; exact a4.alloc _
 have b3 : Below w.heap.size w w3 := by rw [← h3]; exact b2.alloc b2.size _
 generalize h4 : w3.alloc (.cells #[.string ⟨#[]⟩, .int .u64 0, .int .i64 0, .string ⟨#[]⟩] 28) = w4
 have e4 : w4.heap.size = w.heap.size + 1 + 1 + 1 + 1 := by rw [← h4, World.size_alloc, e3]
 have a6 : Blk w4 (w.heap.size + 1 + 1 + 1) 28 #[.string ⟨#[]⟩, .int .u64 0, .int .i64 0, .string ⟨#[]⟩] := by rw [← h4, ← e3]; exact Blk.new w3 _ _
 have a3 : Blk w4 w.heap.size 23 #[.pointer (some ⟨bt, 0, none⟩)] := by rw [← h4]; exact a3.alloc _
 have a4 : Blk w4 (w.heap.size + 1) 9 #[.string key] := by rw [← h4]; exact a4.alloc _
 have a5 : Blk w4 (w.heap.size + 1 + 1) 22 #[.int .u64 n] := by rw [← h4]; exact a5.alloc _
 have b4 : Below w.heap.size w w4 := by rw [← h4]; exact b3.alloc b3.size _
 generalize h5 : w4.alloc (.cells #[.bool false] 4) = w5
 have e5 : w5.heap.size = w.heap.size + 1 + 1 + 1 + 1 + 1 := by rw [← h5, World.size_alloc, e4]
 have a7 : Blk w5 (w.heap.size + 1 + 1 + 1 + 1) 4 #[.bool false] := by rw [← h5, ← e4]; exact Blk.new w4 _ _
 have b5 : Below w.heap.size w w5 := by rw [← h5]; exact b4.alloc b4.size _
 have k5 : Below w4.heap.size w4 w5 := by rw [← h5]; exact (Below.refl _ _).alloc (Nat.le_refl _) _
 have a8 : Blk (w5.alloc (.cells #[.int .i64 0] 29)) (w.heap.size + 1 + 1 + 1 + 1 + 1) 29 #[.int .i64 0] := by rw [← e5]; exact Blk.new w5 _ _
 exact ⟨(a3.below k5 a3.lt).alloc _, (a4.below k5 a4.lt).alloc _, (a5.below k5 a5.lt).alloc _, (a6.below k5 a6.lt).alloc _, a7.alloc _, a8, b5.alloc b5.size _⟩
set_option maxRecDepth 100000 in
set_option maxHeartbeats 8000000 in
theorem Get_any {w : World} {bt : Nat} {s f : ByteArray} {A : Option Addr} {c : Nat} {pts : List PTable.Part} (h : At w bt s f A c (pts.map partB)) (hs : s.size ≤ 262144) (hL : ∀ p ∈ pts, Lies s.size p) (hn : pts.length ≤ 1000000) (key : ByteArray) (hk : key.size ≤ 9223372036854775807) (n : Nat) (hh : hasB (L f) (L key) = true) :
  Calls Try.prog 9 #[.pointer (some ⟨bt, 0, none⟩), .string key, .int .u64 n] w fun e w' => e = .returned (getV (PTable.get hasB ⟨L s, L f, pts⟩ (L key) n)) ∧ Below w.heap.size w w' := by
 have hB := Bloom.has_any f key hk
 rw [show Bloom.has f key = true by have := hh; unfold hasB at this; rwa [B_L, B_L] at this] at hB
 have HB := Lib.hid hB
 have HA := Lib.hid h
 have HL := Lib.hid hL
 clear hB h hL
 refine (callsIn_wide (n := 6)).1 ?_
 have h1 : 1 ≤ 6 := by omega
 refine callsIn_of_wp_marks Try.func9 rfl trivial ?_ rfl
 simp only [Try.ntmps9, List.size_toArray, List.length_cons, List.length_nil, Nat.reduceAdd, Nat.reduceSub, Array.replicate_succ, Array.replicate_zero, List.push_toArray, List.append_toArray, List.nil_append, List.cons_append]
 refine wpIn_wide.2 ?_
 go_wp2_with fail
 have g0 := GB.new w bt key n
 generalize (((((w.alloc _).alloc _).alloc _).alloc _).alloc _).alloc _ = W1 at g0 ⊢
 have hA1 := HA.out.below_of g0.low
 refine (hA1.open_).mono ?_
 rintro e w' ⟨rfl, rfl⟩
 have c3 := (g0.x3.cell 0).trans rfl
 have c4 := (g0.x4.cell 0).trans rfl
 have cf := (hA1.blk.cell 1).trans rfl
 have lt := hA1.blk.lt
 go_wp2_with fail
 go_region_held3 (fun w' => w'.cell? ⟨w.heap.size, 0, none⟩ = some (.pointer (some ⟨bt, 0, none⟩)) ∧ w'.cell? ⟨w.heap.size + 1, 0, none⟩ = some (.string key) ∧ w'.cell? ⟨bt, 1, none⟩ = some (.string f)) (exact ⟨c3, c4, cf⟩) (first | (((with_reducible refine (HB.out _).mono ?_); rintro e w2 ⟨rfl, hb2⟩; have c3 := (hb2.cell (World.block_lt_of_cell? W1 _ c3)).trans c3; have c4 := (hb2.cell (World.block_lt_of_cell? W1 _ c4)).trans c4; have cf := (hb2.cell (World.block_lt_of_cell? W1 _ cf)).trans cf)))
 have hb := q0d (Below.refl W1.heap.size W1).drew hb2
 have g2 := g0.below hb
 have hA2 := hA1.below hb
 clear g0 hA1 hb hb2 c3 c4 cf lt
 have z9 := Blk.new w2 60 #[Value.func (Fn.func 26) #[] #[Value.pointer (some ⟨w.heap.size + 1, 0, none⟩), Value.pointer (some ⟨w.heap.size + 1 + 1, 0, none⟩)]]
 have hb9 := (Below.refl w2.heap.size w2).alloc (Nat.le_refl _) (.cells #[Value.func (Fn.func 26) #[] #[Value.pointer (some ⟨w.heap.size + 1, 0, none⟩), Value.pointer (some ⟨w.heap.size + 1 + 1, 0, none⟩)]] 60)
 have g9 := g2.below hb9
 have hA9 := hA2.below hb9
 have c3 := (g2.x3.cell 0).trans rfl
 have c39 := (g9.x3.cell 0).trans rfl
 have hlt3 := g2.x3.lt
 go_wp2_with fail
 refine (from_any _ _ _ _ _).mono ?_
 rintro e w4 ⟨rfl, rfl⟩
 go_wp2_with fail
 generalize hw9 : w2.alloc _ = W9 at g9 hA9 z9 ⊢
 have hb9 : w2.heap.size < W9.heap.size := z9.lt
 have y1 := Blk.new W9 23 #[.pointer (some ⟨bt, 0, none⟩)]
 have hx1 := (Below.refl W9.heap.size W9).alloc (Nat.le_refl _) (.cells #[.pointer (some ⟨bt, 0, none⟩)] 23)
 have g10 := g9.below hx1
 have z10 := z9.below hx1 z9.lt
 generalize hw10 : W9.alloc _ = W10 at y1 hx1 g10 z10 ⊢
 have e10 : W10.heap.size = W9.heap.size + 1 := by rw [← hw10, World.size_alloc]
 have y2 := Blk.new W10 66 #[.func (.func 28) #[] #[.pointer (some ⟨w2.heap.size, 0, none⟩)]]
 have hx2 := (Below.refl W10.heap.size W10).alloc (Nat.le_refl _) (.cells #[.func (.func 28) #[] #[.pointer (some ⟨w2.heap.size, 0, none⟩)]] 66)
 have g11 := g10.below hx2
 have y1 := y1.below hx2 y1.lt
 have z11 := z10.below hx2 z10.lt
 rw [e10] at y2
 have gi : GI w (W10.alloc (.cells #[.func (.func 28) #[] #[.pointer (some ⟨w2.heap.size, 0, none⟩)]] 66)) bt W9.heap.size (W9.heap.size + 1) w2.heap.size (w.heap.size + 1) (w.heap.size + 1 + 1) key n := ⟨g11.low, y1, y2, z11, g11.x4, g11.x5⟩
 have e9 : W9.heap.size = w2.heap.size + 1 := by rw [← hw9, World.size_alloc]
 rw [e9] at gi
 have hsz0 : w2.heap.size + 1 + 1 < (W10.alloc (.cells #[.func (.func 28) #[] #[.pointer (some ⟨w2.heap.size, 0, none⟩)]] 66)).heap.size := by rw [World.size_alloc, e10, e9]; omega
 clear g9 hA9 z9 y1 y2 hx1 g10 z10 z11 hw9 hw10 e9 e10
 generalize W10.alloc _ = W0 at g11 gi hsz0 ⊢
 refine (wpIn_wide (n := 6)).1 ?_
 have hA0 : At w bt s f A c (pts.attach.map (fun x => partB x.1)) := by rw [List.attach_map_val (f := partB)]; exact HA.out
 have hlen : pts.attach.length ≤ 1000000 := by rw [List.length_attach]; exact hn
 have hB0 : w.heap.size ≤ W0.heap.size := g11.low.size
 have hDW : (fun p : {p : PTable.Part // p ∈ pts} => !q1v key n (partB p.1).f1 (partB p.1).f2) = (fun p => !PTable.behind (L key) n p.1.last p.1.seq) := by
  funext p
  rw [show (partB p.1).f1 = Txt.B p.1.last from rfl, show (partB p.1).f2 = (p.1.seq : Int) from rfl, behindB_eq]
 rename_i K0 a0
 have hl8 : w.heap.size + 6 ≤ W0.heap.size := g11.x8.lt
 have hrest : ∀ (D : Nat) (W : World) (r : S28) (b : Bool) (e : Int), W0.heap.size ≤ D → GB w W bt key n r b e → W.heap[D]? = some (.deferred (some [])) → PTable.get hasB ⟨L s, L f, pts⟩ (L key) n = (PTable.zeroRow, false, 0) →
   K0 { tmps := #[Value.pointer (some ⟨bt, 0, none⟩), Value.string key, Value.int IntKind.u64 n, Value.pointer (some ⟨w.heap.size, 0, none⟩), Value.pointer (some ⟨w.heap.size + 1, 0, none⟩), Value.pointer (some ⟨w.heap.size + 1 + 1, 0, none⟩), Value.pointer (some ⟨w.heap.size + 1 + 1 + 1, 0, none⟩), Value.pointer (some ⟨w.heap.size + 1 + 1 + 1 + 1, 0, none⟩), Value.pointer (some ⟨w.heap.size + 1 + 1 + 1 + 1 + 1, 0, none⟩), Value.pointer (some ⟨w2.heap.size, 0, none⟩), undef, undef, undef, undef, undef, Value.pointer (some ⟨bt, 0, none⟩), Value.bool false, undef, Value.pointer (some ⟨bt, 0, none⟩), Value.pointer (some ⟨bt, 0, none⟩), Value.pointer (some ⟨bt, 1, none⟩), Value.string f, Value.string key, Value.bool true, Value.bool false, undef, Value.func (Fn.func 26) #[] #[Value.pointer (some ⟨w.heap.size + 1, 0, none⟩), Value.pointer (some ⟨w.heap.size + 1 + 1, 0, none⟩)], Value.pointer (some ⟨bt, 0, none⟩), Value.func (Fn.func 28) #[] #[Value.pointer (some ⟨w2.heap.size, 0, none⟩)], Value.func (Fn.func 54) #[] #[Value.pointer (some ⟨w2.heap.size + 1, 0, none⟩), Value.pointer (some ⟨w2.heap.size + 1 + 1, 0, none⟩)], undef, undef, undef, undef, undef, undef, undef, undef, undef, undef, undef, undef, undef, undef, undef, undef, undef, undef, undef, undef, undef, undef, undef, undef, undef, undef, undef, undef, undef, undef], defers := [{ target := .collected D, args := #[] }] } W := by
  rintro D W r b e hD gb hK hG
  refine a0 _ _ ?_
  have HK2 := Lib.hid ((wrote_far w W ⟨⟨#[]⟩, 0, 0, ⟨#[]⟩⟩ false 0 D (.inr (by omega))).trans hK)
  have GB2 := Lib.hid (gb.write ⟨⟨#[]⟩, 0, 0, ⟨#[]⟩⟩ false 0)
  have HK := Lib.hid hK
  have HG := Lib.hid hG
  clear hK hG
  have q0 := (gb.x6.cell 0).trans rfl
  have q1 := (gb.x6.cell 1).trans rfl
  have q2 := (gb.x6.cell 2).trans rfl
  have q3 := (gb.x6.cell 3).trans rfl
  have q4 := (gb.x7.cell 0).trans rfl
  have q5 := (gb.x8.cell 0).trans rfl
  have f0 := gb.x6.frozen 0
  have f1 := gb.x6.frozen 1
  have f2 := gb.x6.frozen 2
  have f3 := gb.x6.frozen 3
  have f4 := gb.x7.frozen 0
  have f5 := gb.x8.frozen 0
  have l6 := gb.x6.lt
  have l7 := gb.x7.lt
  have l8 := gb.x8.lt
  go_wp2_with fail
  clear q0 q1 q2 q3 q4 q5 f0 f1 f2 f3 f4 f5
  change bodyPostM _ _ _ _ _ _ _ (wrote w W ⟨⟨#[]⟩, 0, 0, ⟨#[]⟩⟩ false 0)
  have hK2 := HK2.out
  have gb1 := GB2.out
  generalize wrote w W ⟨⟨#[]⟩, 0, 0, ⟨#[]⟩⟩ false 0 = W9 at hK2 gb1 ⊢
  have gb2 := gb1.own (grownBy_putObj' W9 D (.deferred none)) (fun r e => by cases e; exact ⟨by omega, _, hK2, rfl⟩)
  have q0 := (gb2.x6.cell 0).trans rfl
  have q1 := (gb2.x6.cell 1).trans rfl
  have q2 := (gb2.x6.cell 2).trans rfl
  have q3 := (gb2.x6.cell 3).trans rfl
  have q4 := (gb2.x7.cell 0).trans rfl
  have q5 := (gb2.x8.cell 0).trans rfl
  refine ⟨by simp, .inl ⟨_, _, rfl, run_takeDeferred hK2, ?_⟩⟩
  refine ⟨getV (PTable.zeroRow, false, 0), by simp [results, Try.results9, go_sem, q0, q1, q2, q3, q4, q5, getV, rowB, PTable.zeroRow], ?_, gb2.low⟩
  rw [HG.out]
 refine wpIn_rangeFunc_ownH (α := {p : PTable.Part // p ∈ pts}) rfl h1 (gf := 54) (lb := #[.pointer (some ⟨w2.heap.size + 1, 0, none⟩), .pointer (some ⟨w2.heap.size + 1 + 1, 0, none⟩)]) rfl trivial (enters_of Try.func54 (by kernel_rfl) rfl)
  (from_stops (fun x : {p : PTable.Part // p ∈ pts} => partB x.1) pts.attach hlen (6 - 1) (by omega) bt (w2.heap.size + 1) (w2.heap.size + 1 + 1) w2.heap.size (w.heap.size + 1) (w.heap.size + 1 + 1) s f A c key n w W0 hA0 gi) (fun h1 h2 v => h2 (h1 v))
  (fun W l o o' hl ho hc _ v => v.own (grownBy_putObj' W l o') (fun r e => by cases e; exact ⟨by omega, o, ho, hc⟩)) (Below.refl _ _) (fun _ => rfl)
  (fun pre W => (pre = [] ∧ W0.heap.size ≤ W.heap.size) ∧ GB w W bt key n ⟨⟨#[]⟩, 0, 0, ⟨#[]⟩⟩ false 0 ∧ GI w W bt (w2.heap.size + 1) (w2.heap.size + 1 + 1) w2.heap.size (w.heap.size + 1) (w.heap.size + 1 + 1) key n)
  (fun cc pre W => (cc = .ret ∨ cc = .exit 0) ∧ ∃ x : {p : PTable.Part // p ∈ pts}, pre = [x] ∧ (cc = .exit 0 → outOf (L s) (L key) n x.1 = (PTable.zeroRow, false, 0)) ∧ ∃ (r : S28) (b : Bool) (e : Int), (cc = .ret → r = rowB (outOf (L s) (L key) n x.1).1 ∧ b = (outOf (L s) (L key) n x.1).2.1 ∧ e = ((outOf (L s) (L key) n x.1).2.2 : Nat)) ∧ GB w W bt key n r b e)
  ?hI ?hIx ⟨⟨rfl, Nat.le_refl _⟩, g11, gi⟩
  (fun x a' W => ∃ Bx, W0.heap.size ≤ Bx ∧ Blk W Bx 65 #[.string (partB x.1).f0, .string (partB x.1).f1, .int .u64 (partB x.1).f2, .int .i64 (partB x.1).f3, .int .i64 (partB x.1).f4, .int .i64 (partB x.1).f5] ∧ a' = { tmps := #[Value.pointer (some ⟨bt, 0, none⟩), Value.string key, Value.int IntKind.u64 n, Value.pointer (some ⟨w.heap.size, 0, none⟩), Value.pointer (some ⟨w.heap.size + 1, 0, none⟩), Value.pointer (some ⟨w.heap.size + 1 + 1, 0, none⟩), Value.pointer (some ⟨w.heap.size + 1 + 1 + 1, 0, none⟩), Value.pointer (some ⟨w.heap.size + 1 + 1 + 1 + 1, 0, none⟩), Value.pointer (some ⟨w.heap.size + 1 + 1 + 1 + 1 + 1, 0, none⟩), Value.pointer (some ⟨w2.heap.size, 0, none⟩), Value.pointer (some ⟨Bx, 0, none⟩), undef, undef, undef, undef, Value.pointer (some ⟨bt, 0, none⟩), Value.bool false, undef, Value.pointer (some ⟨bt, 0, none⟩), Value.pointer (some ⟨bt, 0, none⟩), Value.pointer (some ⟨bt, 1, none⟩), Value.string f, Value.string key, Value.bool true, Value.bool false, undef, Value.func (Fn.func 26) #[] #[Value.pointer (some ⟨w.heap.size + 1, 0, none⟩), Value.pointer (some ⟨w.heap.size + 1 + 1, 0, none⟩)], Value.pointer (some ⟨bt, 0, none⟩), Value.func (Fn.func 28) #[] #[Value.pointer (some ⟨w2.heap.size, 0, none⟩)], Value.func (Fn.func 54) #[] #[Value.pointer (some ⟨w2.heap.size + 1, 0, none⟩), Value.pointer (some ⟨w2.heap.size + 1 + 1, 0, none⟩)], partV (partB x.1), undef, undef, undef, undef, undef, undef, undef, undef, undef, undef, undef, undef, undef, undef, undef, undef, undef, undef, undef, undef, undef, undef, undef, undef, undef, undef, undef, undef, undef], defers := [] }) ?hAx ?assign ?body ?done ?stop
 case hI => exact fun _ W W' row h hg hr => ⟨⟨h.1.1, Nat.le_trans h.1.2 hg.size⟩, h.2.1.own hg (fun r e => ⟨Nat.le_trans hB0 (hr r e).1, (hr r e).2⟩), h.2.2.own hg (fun r e => ⟨Nat.le_trans hB0 (hr r e).1, (hr r e).2⟩)⟩
 case hIx => exact fun cc pre W W' row ⟨h1, x, h2, h3, r, b, e, h4, h5⟩ hg hr => ⟨h1, x, h2, h3, r, b, e, h4, h5.own hg (fun r e => ⟨Nat.le_trans hB0 (hr r e).1, (hr r e).2⟩)⟩
 case hAx => exact fun x a' _ W W' row ⟨Bx, h1, h2, h3⟩ hg hr => ⟨Bx, h1, q0y h2 hg (fun r e => (hr r e).2), h3⟩
 case assign =>
  rintro l pre x W K ⟨⟨rfl, hWs⟩, gb, g⟩ hK
  gi_wp2
  exact hK _ _ ((KeepsOthers.alloc _ _).from _) (fun v => v.below ((Below.refl _ _).alloc (Nat.le_refl _) _)) ⟨⟨trivial, by rw [World.size_alloc]; omega⟩, gb.below ((Below.refl _ _).alloc (Nat.le_refl _) _), g.below ((Below.refl _ _).alloc (Nat.le_refl _) _)⟩ ⟨W.heap.size, hWs, Blk.new W _ _, rfl⟩
 case body =>
  rintro l pre x a' W hl ⟨rr, hr⟩ ⟨⟨rfl, hWs⟩, gb, g⟩ ⟨Bx, hBx, bX, rfl⟩ hlt
  have hAW := HA.out.below_of gb.low
  have RD := read_any hAW hs x.1 (HL.out x.1 x.2)
  have hon : outOf (L s) (L key) n x.1 = outOf (L s) (L key) n x.1 := rfl
  conv at hon => rhs; unfold outOf
  have c3 := (gb.x3.cell 0).trans rfl
  have r0 := (bX.cell 0).trans rfl
  have r1 := (bX.cell 1).trans rfl
  have r2 := (bX.cell 2).trans rfl
  have r3 := (bX.cell 3).trans rfl
  have r4 := (bX.cell 4).trans rfl
  have r5 := (bX.cell 5).trans rfl
  cases hrd : PTable.readT (L s) x.1 with
  | none =>
   rw [hrd] at RD hon
   have RDH := Lib.hid RD
   have HON := Lib.hid hon
   clear RD hon
   gi_wp2_with (refine ⟨trivial, ?_⟩; gi_at_call 29; refine (CallsIn.inRound l (callsIn_wide.2 RDH.out)).mono ?_; rintro e w5 ⟨rfl, hb⟩; have gb5 := gb.below hb; have q0 := (gb5.x6.cell 0).trans rfl; have q1 := (gb5.x6.cell 1).trans rfl; have q2 := (gb5.x6.cell 2).trans rfl; have q3 := (gb5.x6.cell 3).trans rfl; have q4 := (gb5.x7.cell 0).trans rfl; have q5 := (gb5.x8.cell 0).trans rfl; have f0 := gb5.x6.frozen 0; have f1 := gb5.x6.frozen 1; have f2 := gb5.x6.frozen 2; have f3 := gb5.x6.frozen 3; have f4 := gb5.x7.frozen 0; have f5 := gb5.x8.frozen 0; have l6 := gb5.x6.lt; have l7 := gb5.x7.lt; have l8 := gb5.x8.lt)
   change ownPostG _ _ _ _ _ _ _ _ (wrote w w5 ⟨⟨#[]⟩, 0, 0, ⟨#[]⟩⟩ false 10)
   have hKF := keeps_wrote hb hl8 ⟨⟨#[]⟩, 0, 0, ⟨#[]⟩⟩ false 10
   have hGB := gb5.write ⟨⟨#[]⟩, 0, 0, ⟨#[]⟩⟩ false 10
   generalize wrote w w5 ⟨⟨#[]⟩, 0, 0, ⟨#[]⟩⟩ false 10 = W8 at hKF hGB ⊢
   refine ⟨hKF, .inl rfl, x, rfl, (fun h => nomatch h), ⟨⟨#[]⟩, 0, 0, ⟨#[]⟩⟩, false, 10, (fun _ => ?_), hGB⟩
   rw [HON.out]
   exact ⟨rfl, rfl, rfl⟩
  | some rl =>
   rw [hrd] at RD hon
   have RDH := Lib.hid RD
   have HON := Lib.hid hon
   clear RD hon
   gi_wp2_with (refine ⟨trivial, ?_⟩; gi_at_call 29; refine (CallsIn.inRound l (callsIn_wide.2 RDH.out)).mono ?_; rintro e w5 ⟨⟨v, rfl, hR⟩, hb⟩; obtain ⟨A5, c5, rfl, hc5, hC5⟩ := Kd.R_reads hR; rw [List.length_map] at hc5 hC5; have HC5 := Lib.hid hC5; clear hC5 hR; clear RDH; rw [List.length_map])
   have hC5 := HC5.out
   have gb5 := gb.below hb
   have g5 := g.below hb
   have hrn : rl.length ≤ 1000000 := by have h1 := readT_len hrd; have h2 := (HL.out x.1 x.2).rows; omega
   clear r0 r1 r2 r3 r4 r5 c3 HC5
   gi_loopw [43] (fun v43 wr => ∃ i : Nat, i ≤ rl.length ∧ v43 = .int .i64 i ∧ Below w5.heap.size w5 wr ∧ rl.find? (fun r => PTable.behind (L key) n r.key r.seq) = (rl.drop i).find? (fun r => PTable.behind (L key) n r.key r.seq)) (fun v43 _ => rl.length - (intOf v43).toNat)
   case atStart => exact ⟨0, by omega, rfl, Below.refl _ _, rfl⟩
   case round =>
    obtain ⟨i, hi, rfl, hBw, hfi⟩ := hrel
    have HFI := Lib.hid hfi
    clear hfi
    by_cases hlt2 : i < rl.length
    ·have t1 : ((i : Int) < (rl.length : Int)) = True := eq_true (by omega)
     obtain ⟨ad, rfl, k0, k1, k2, k3⟩ := q15 (Kd.C_below hC5 hBw) (i : Int) (by omega) (by omega)
     have ek : q0i (rl.map rowB) (i : Int) = rowB rl[i] := by
      rw [q1h (rl.map rowB) i (by rw [List.length_map]; exact hlt2), List.getElem_map]
     rw [ek, Int.toNat_natCast] at k0 k1 k2 k3
     have hdr : rl.drop i = rl[i] :: rl.drop (i + 1) := List.drop_eq_getElem_cons hlt2
     have hfc := HFI.out
     rw [hdr, List.find?_cons] at hfc
     have HFC := Lib.hid hfc
     clear hfc ek hdr HFI
     generalize rl[i] = ro at k0 k1 k2 k3 HFC
     have hbq := behindB_eq key n ro.key ro.seq
     have hx0 : (rowB ro).f0 = Txt.B ro.key := rfl
     have hx1 : (rowB ro).f1 = (ro.seq : Int) := rfl
     rw [hx0] at k0
     rw [hx1] at k1
     generalize hKB : Txt.B ro.key = KB at k0 hbq
     have BH := Lib.hid (fun w' (y4 : Blk w' (w.heap.size + 1) 9 #[.string key]) (y5 : Blk w' (w.heap.size + 1 + 1) 22 #[.int .u64 (n : Int)]) => behind_any y4 y5 KB (ro.seq : Int))
     rw [hbq] at BH
     have HKB := Lib.hid hKB
     clear hbq hx0 hx1 hKB
     have hbx := (Below.refl wr.heap.size wr).alloc (Nat.le_refl _) (.cells #[.string KB, .int .u64 (ro.seq : Int), .int .i64 (rowB ro).f2, .string (rowB ro).f3] 28)
     have BR := Blk.new wr 28 #[.string KB, .int .u64 (ro.seq : Int), .int .i64 (rowB ro).f2, .string (rowB ro).f3]
     have hb7 := q0d hBw hbx
     have gb7 := gb5.below hb7
     have g7 := g5.below hb7
     have c9 := (g7.x9.cell 0).trans rfl
     have l9 := g7.x9.lt
     have c4 := (gb7.x4.cell 0).trans rfl
     have d0 := (BR.cell 0).trans rfl
     have d1 := (BR.cell 1).trans rfl
     cases hbe : PTable.behind (L key) n ro.key ro.seq with
     | false =>
      rw [hbe] at BH HFC
      gi_wp2_with (refine ⟨trivial, ?_⟩; gi_at_call 26; refine (CallsIn.inRound l (callsIn_wide.2 (BH.out _ gb7.x4 gb7.x5))).mono ?_; rintro e w7 ⟨rfl, rfl⟩)
      go_roundw
      case rel => exact ⟨i + 1, by omega, by go_num, hb7, HFC.out⟩
      case measure => simp [intOf]; omega
     | true =>
      rw [hbe] at BH HFC
      have hon := HON.out
      try dsimp only at hon
      rw [HFC.out] at hon
      try dsimp only at hon
      have HO := Lib.hid hon
      clear hon HON HFC
      have q0 := (gb7.x6.cell 0).trans rfl
      have q1 := (gb7.x6.cell 1).trans rfl
      have q2 := (gb7.x6.cell 2).trans rfl
      have q3 := (gb7.x6.cell 3).trans rfl
      have q4 := (gb7.x7.cell 0).trans rfl
      have q5 := (gb7.x8.cell 0).trans rfl
      have f0 := gb7.x6.frozen 0
      have f1 := gb7.x6.frozen 1
      have f2 := gb7.x6.frozen 2
      have f3 := gb7.x6.frozen 3
      have f4 := gb7.x7.frozen 0
      have f5 := gb7.x8.frozen 0
      have l6 := gb7.x6.lt
      have l7 := gb7.x7.lt
      have l8 := gb7.x8.lt
      have d2 := (BR.cell 2).trans rfl
      have d3 := (BR.cell 3).trans rfl
      by_cases hke : KB = key
      ·have b1 : (KB.toList == key.toList) = true := by rw [hke]; exact beq_self_eq_true _
       have hrk : ro.key = L key := by rw [← hke, ← HKB.out, L_B]
       have HRK := Lib.hid hrk
       clear hke hrk
       gi_wp2_with (refine ⟨trivial, ?_⟩; gi_at_call 26; refine (CallsIn.inRound l (callsIn_wide.2 (BH.out _ gb7.x4 gb7.x5))).mono ?_; rintro e w7 ⟨rfl, rfl⟩)
       have hKF := keeps_wrote (q0d hb hb7) hl8 ⟨KB, (ro.seq : Int), (rowB ro).f2, (rowB ro).f3⟩ true 0
       have hGB := gb7.write ⟨KB, (ro.seq : Int), (rowB ro).f2, (rowB ro).f3⟩ true 0
       change ownPostG _ _ _ _ _ _ _ _ (wrote w _ ⟨KB, (ro.seq : Int), (rowB ro).f2, (rowB ro).f3⟩ true 0)
       generalize wrote w _ ⟨KB, (ro.seq : Int), (rowB ro).f2, (rowB ro).f3⟩ true 0 = W8 at hKF hGB ⊢
       refine ⟨hKF, .inl rfl, x, rfl, (fun h => nomatch h), _, true, 0, (fun _ => ?_), hGB⟩
       rw [HO.out, if_pos HRK.out]
       refine ⟨?_, rfl, rfl⟩
       rw [← HKB.out]
       rfl
      ·have b1 : (KB.toList == key.toList) = false := beq_false_of_ne (fun e => hke (L_inj (by rw [← Print.L_toList, ← Print.L_toList]; exact e)))
       have hrk : ro.key ≠ L key := fun e => hke (by rw [← HKB.out, e, B_L])
       have HRK := Lib.hid hrk
       clear hke hrk
       gi_wp2_with (refine ⟨trivial, ?_⟩; gi_at_call 26; refine (CallsIn.inRound l (callsIn_wide.2 (BH.out _ gb7.x4 gb7.x5))).mono ?_; rintro e w7 ⟨rfl, rfl⟩)
       refine ⟨keeps_below (q0d hb hb7), .inr rfl, x, rfl, (fun _ => ?_), _, false, 0, (fun h => nomatch h), gb7⟩
       rw [HO.out, if_neg HRK.out]
    ·have t1 : ((i : Int) < (rl.length : Int)) = False := eq_false (by omega)
     obtain rfl : i = rl.length := by omega
     have hnf : rl.find? (fun r => PTable.behind (L key) n r.key r.seq) = none := by rw [HFI.out, List.drop_length]; rfl
     have hon := HON.out
     try dsimp only at hon
     rw [hnf] at hon
     have HO := Lib.hid hon
     clear hon HON hnf HFI
     gi_wp2_with (fail)
     have H : (Code.exit 0 = Code.ret ∨ Code.exit 0 = Code.exit 0) ∧ ∃ y : {p : PTable.Part // p ∈ pts}, [x] = [y] ∧ (Code.exit 0 = Code.exit 0 → outOf (L s) (L key) n y.1 = (PTable.zeroRow, false, 0)) ∧ ∃ (r : S28) (b : Bool) (e : Int), (Code.exit 0 = Code.ret → r = rowB (outOf (L s) (L key) n y.1).1 ∧ b = (outOf (L s) (L key) n y.1).2.1 ∧ e = ((outOf (L s) (L key) n y.1).2.2 : Nat)) ∧ GB w wr bt key n r b e :=
      ⟨.inr rfl, x, rfl, (fun _ => HO.out), _, false, 0, (fun h => nomatch h), gb5.below hBw⟩
     have hKB2 := keeps_below (B := W0.heap.size) (q0d hb hBw)
     refine ⟨hKB2, ?_⟩
     simp
     exact ⟨x.1, ⟨x.2, rfl⟩, by simpa using H⟩
 case done =>
  rintro D xs W hD hxs ⟨⟨rfl, hWs⟩, gb, g⟩ hK
  refine hrest D W _ _ _ hD gb hK ?_
  rw [hDW] at hxs
  rw [get_of _ _ _ _ _ hh, find_attach, ← hxs]
  rfl
 case stop =>
  rintro D cc pre W hD hP ⟨hc, x, rfl, h3, r, b, e, h4, gb⟩ hK
  rcases hc with rfl | rfl
  ·refine wpIn_ret ?_
   obtain ⟨rfl, rfl, rfl⟩ := h4 rfl
   have gb2 := gb.own (grownBy_putObj' W D (.deferred none)) (fun r e => by cases e; exact ⟨by omega, _, hK, rfl⟩)
   have q0 := (gb2.x6.cell 0).trans rfl
   have q1 := (gb2.x6.cell 1).trans rfl
   have q2 := (gb2.x6.cell 2).trans rfl
   have q3 := (gb2.x6.cell 3).trans rfl
   have q4 := (gb2.x7.cell 0).trans rfl
   have q5 := (gb2.x8.cell 0).trans rfl
   refine ⟨by simp, .inl ⟨_, _, rfl, run_takeDeferred hK, ?_⟩⟩
   refine ⟨getV (outOf (L s) (L key) n x.1), by simp [results, Try.results9, go_sem, q0, q1, q2, q3, q4, q5, getV], ?_, gb2.low⟩
   obtain ⟨_, rr, hr⟩ := hP
   rw [hDW] at hr
   rw [get_of _ _ _ _ _ hh, find_attach, hr]
   rfl
  ·obtain ⟨_, rr, hr⟩ := hP
   rw [hDW] at hr
   gi_wp2
   refine hrest D W _ _ _ hD gb hK ?_
   rw [get_of _ _ _ _ _ hh, find_attach, hr]
   exact h3 trivial
end Go.Proofs.Ytaigmemmgjlhgaa.Tab
-- TabH
namespace Go.Proofs.Ytaigmemmgjlhgaa.Tab
open Go.RowKit Go.Shelf Aid Txt Print PLink Block Bits Go.Proofs.YtaigmemmgjlhgaaW.PrintWords
structure SI (w wr : World) (bt b1 b2 b4 : Nat) (key : ByteArray) : Prop where
 low : Below w.heap.size w wr
 x1 : Blk wr b1 23 #[.pointer (some ⟨bt, 0, none⟩)]
 x2 : Blk wr b2 66 #[.func (.func 30) #[] #[.pointer (some ⟨b4, 0, none⟩)]]
 x4 : Blk wr b4 9 #[.string key]
theorem SI.below {w wr w' : World} {bt b1 b2 b4 : Nat} {key : ByteArray} (h : SI w wr bt b1 b2 b4 key) (hb : Below wr.heap.size wr w') : SI w w' bt b1 b2 b4 key :=
 ⟨q0d h.low hb, h.x1.below hb h.x1.lt, h.x2.below hb h.x2.lt, h.x4.below hb h.x4.lt⟩
theorem SI.own {w wr w' : World} {bt b1 b2 b4 : Nat} {key : ByteArray} {row : Option Nat} (h : SI w wr bt b1 b2 b4 key) (hg : wr.grownBy w' row) (hr : ∀ r, row = some r → w.heap.size ≤ r ∧ ∃ o : Obj, wr.heap[r]? = some o ∧ o.isCells = false) : SI w w' bt b1 b2 b4 key :=
 ⟨low_own h.low hg (fun r e => (hr r e).1), q0y h.x1 hg (fun r e => (hr r e).2), q0y h.x2 hg (fun r e => (hr r e).2), q0y h.x4 hg (fun r e => (hr r e).2)⟩
end Go.Proofs.Ytaigmemmgjlhgaa.Tab
-- TabW
namespace Go.Proofs.Ytaigmemmgjlhgaa.Tab
open Go.RowKit Aid Txt Print PLink Block Bits Go.Proofs.YtaigmemmgjlhgaaW.PrintWords
def row1 : PBlock.Row := ⟨[97], 1, 1, [120]⟩
theorem build1 (R : Int) (h1 : 1 ≤ R) (h2 : R ≤ 64) : (PBlock.build [row1] R).2 = 0 := one_ok (l := [row1]) (by simp [row1, PBlock.check]) R h1 h2
theorem right1 : PTable.right [row1] 64 16 10 = 0 := by
 simp [PTable.right, row1, PBlock.order, PBlock.check]
theorem chunks1 : PTable.chunks [row1] 64 16 = [[row1]] := by
 simp [PTable.chunks, PTable.chunksAt, PTable.cut, PTable.cutAt]
end Go.Proofs.Ytaigmemmgjlhgaa.Tab
