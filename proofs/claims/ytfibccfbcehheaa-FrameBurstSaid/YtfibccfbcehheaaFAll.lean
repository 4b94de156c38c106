/- The walk of frame.All: a loop over the iterator that each hands back. -/
import Derived.RangeFuncBox
import Derived.RangeFuncLeaves
import Derived.RangeFuncNested
import Derived.Shelf.Abstract
import Derived.WalkKit
import Derived.OwnWalkIn
import Derived.TacticsInMore
import Derived.LoopNIn
import Derived.LoopIn
import Derived.Maps.AppendAt
import Derived.Test.YtfibccfbcehheaaProg
import Derived.Test.YtfibccfbcehheaaFSeq
import Derived.Test.YtfibccfbcehheaaRFrame
namespace Go.Proofs.Ytfibccfbcehheaa.FAll
open Go.RowKit Go.Shelf Txt
attribute [local go_sem] Oper.semAt_some
/-- frame.Get, by what it computes -/
theorem get_any (s : ByteArray) (hs : s.size ≤ 1000000) (w : World) :
    Calls Try.prog 16 #[.string s] w fun e w' => e = .returned (.tuple #[.string (B (PFrame.get (L s)).1), .int .i64 ((PFrame.get (L s)).2.1 : Int), .int .i64 ((PFrame.get (L s)).2.2 : Int)]) ∧ Below w.heap.size w w' := by
  obtain ⟨K, h⟩ := Print.frame_get s (by omega)
  exact Print.frame_Get.calls K s _ _ _ w (h K (Nat.le_refl _))
/-- a body under its labels, none of which is jumped to: beside the kit's law for the walk that knows no rounds -/
def noGotoIn (Q : Exit → Act → World → Prop) : Exit → Act → World → Prop
  | .goto _, _, _ => False
  | e, a, w => Q e a w
theorem stepR_scope {P : Program} {b : Frame} {a : Act} {k : List Item} {cs : List Frame} {w : World} {c : Code} : step P (lone (b.atR a (.code (.scope c) :: k)) cs w) = .next (lone (b.atR a (.code c :: .inScope c :: k)) cs w) :=
  step_lone_go (by simp [stepG, stepG.exec, Frame.atR])
theorem stepR_inScope {P : Program} {b : Frame} {a : Act} {k : List Item} {cs : List Frame} {w : World} {c : Code} : step P (lone (b.atR a (.inScope c :: k)) cs w) = .next (lone (b.atR a k) cs w) :=
  step_lone_go (by simp [stepG, stepG.exec, Frame.atR])
theorem wpIn_scope {F : Fence} {n : Nat} {P : Program} {Q : Exit → Act → World → Prop} {a : Act} {w : World} {c : Code} (h : c.wpIn F n P (noGotoIn Q) a w) : (Code.scope c).wpIn F n P Q a w := by
  intro b k cs hro hb hr
  have h0 : (lone (b.atR a (.code (.scope c) :: k)) cs w).fenced P F := fenced_calm hb hr rfl
  obtain ⟨e, a₁, w₁, hq, harr⟩ := h b (.inScope c :: k) cs hro hb hr
  cases e with
  | normal => exact ⟨.normal, a₁, w₁, hq, .head h0 stepR_scope (StepsIn.trans harr (.one (fenced_calm hb hr rfl) stepR_inScope))⟩
  | exit id =>
    have hx : exitTo id (.inScope c :: k) = exitTo id k := by simp [exitTo]
    exact ⟨.exit id, a₁, w₁, hq, fun k' hk => .head h0 stepR_scope (harr.1 k' (by rw [hx]; exact hk)),
      fun hr' hk => let ⟨k₁, h1, h2⟩ := harr.2 hr' (by rw [hx]; exact hk); ⟨k₁, h1, .head h0 stepR_scope h2⟩⟩
  | goto l => exact hq.elim
  | ret => exact ⟨_, a₁, w₁, hq, .of_steps (.one h0 stepR_scope) harr⟩
  | panic ch => exact ⟨_, a₁, w₁, hq,   .of_steps (.one h0 stepR_scope) harr⟩
  | outgrown => exact ⟨_, a₁, w₁, hq, .of_steps (.one h0 stepR_scope) harr⟩
abbrev vals (x : List UInt8 × Nat) : Array Value := #[.string (B x.1), .int .i64 (x.2 : Int)]
/-- the block in which the closure finds its text lies as it lay -/
def Lies (b : Nat) (W W' : World) : Prop := ∀ v, W.cell? ⟨b, 0, none⟩ = some v → W'.cell? ⟨b, 0, none⟩ = some v
set_option maxRecDepth 100000 in
set_option maxHeartbeats 2000000 in
theorem each1_in (n : Nat) (hn : 1 ≤ n) (l Bn : Nat) (F : ByteArray) (hF : F.size ≤ 1000000) (J Jx : List (List UInt8 × Nat) → World → Prop) (W : World) (hJ : AbidesFrom W.heap.size J) (hBn : W.cell? ⟨Bn, 0, none⟩ = some (.string F))
    (hY : ∀ pre x W, J pre W → pre.length < F.size → YieldAt Fence.wide (n - 1) Try.prog l (vals x) W fun e W' =>
      (e = .returned (.bool true) ∧ J (pre ++ [x]) W' ∧ Lies Bn W W') ∨ (e = .returned (.bool false) ∧ Jx (pre ++ [x]) W'))
    (h0 : J [] W) :
    CallsIn Fence.wide n Try.prog 32 #[.func (.yield l) #[] #[], .pointer (some ⟨Bn, 0, none⟩)] W fun e W' => (∃ v, e = .returned v) ∧
      ((∃ xs, xs = FSeq.steps (L F) 0 ∧ J xs W') ∨ (∃ pre, FSeq.Part (L F) pre ∧ Jx pre W')) := by
  refine callsIn_of_wp Try.func32 rfl trivial ?_ rfl
  simp only [Try.ntmps32, List.size_toArray, List.length_cons, List.length_nil, Nat.reduceAdd, Nat.reduceSub, Array.replicate_succ, Array.replicate_zero, List.push_toArray, List.append_toArray, List.nil_append, List.cons_append]
  gi_wp2
  gi_loopw [3] (fun v3 wr => ∃ pre : List (List UInt8 × Nat), v3 = .int .i64 (FSeq.endOf 0 pre : Int) ∧ FSeq.Part (L F) pre ∧ J pre wr ∧ wr.cell? ⟨Bn, 0, none⟩ = some (.string F))
    (fun v3 _ => F.size - (intOf v3).toNat)
  case atStart =>
    exact ⟨[], rfl, FSeq.Part.nil _, h0, hBn⟩
  case round =>
    obtain ⟨pre, rfl, hP, hJs, hc⟩ := hrel
    have hle := hP.le
    rw [L_length] at hle
    have hx : L (F.extract (FSeq.endOf 0 pre) F.size) = (L F).drop (FSeq.endOf 0 pre) := L_drop F _
    have hg := get_any (F.extract (FSeq.endOf 0 pre) F.size) (by rw [ByteArray.size_extract]; omega)
    rw [hx] at hg
    have HG := Lib.hid hg
    clear hg hx
    have hstop := hP.stop
    have hsnoc := hP.snoc
    have hshort := hP.short
    rw [L_length] at hshort
    have hgz : (PFrame.get ((L F).drop (FSeq.endOf 0 pre))).2.2 = 0 → (PFrame.get ((L F).drop (FSeq.endOf 0 pre))).2.1 ≤ F.size - FSeq.endOf 0 pre ∧ 5 ≤ (PFrame.get ((L F).drop (FSeq.endOf 0 pre))).2.1 := fun h => by
      have h1 := PFrame.get_size_pos h
      rw [List.length_drop, L_length] at h1
      exact ⟨h1.2, h1.1⟩
    generalize PFrame.get ((L F).drop (FSeq.endOf 0 pre)) = r at HG hstop hsnoc hgz
    clear hP
    generalize FSeq.endOf 0 pre = a at hle HG hsnoc hgz ⊢
    by_cases he : r.2.2 = 0
    · have hsn := hsnoc he
      obtain ⟨hz1, hz2⟩ := hgz he
      clear hsnoc hstop hgz
      have h1 : ((r.2.2 : Int) != 0) = false := by simp [he]
      gi_wp2_with (refine ⟨trivial, ?_⟩; gi_at_call 16; refine (callsIn_wide.2 (HG.out _)).mono ?_; rintro e w2 ⟨rfl, hb⟩; have hc2 := (hb.cell (p := ⟨Bn, 0, none⟩) (World.block_lt_of_cell? wr ⟨Bn, 0, none⟩ hc)).trans hc; have hJ2 := hJ pre wr w2 none hJs (Aid.only_of_below hb none) (fun r h => by cases h); obtain ⟨fn, tmps, assign, body, hy, hR⟩ := hY pre (r.1, a + r.2.1) w2 hJ2 (by omega); simp only [vals, Int.natCast_add] at hy)
      refine hR.mono ?_
      rintro e W3 (⟨rfl, hJ3, hk3⟩ | ⟨rfl, hJx3⟩)
      · have hc3 := hk3 _ hc2
        gi_wp2
        go_roundw
        case rel => exact ⟨pre ++ [(r.1, a + r.2.1)], by rw [FSeq.endOf_snoc]; simp, hsn, hJ3, hc3⟩
        case measure => simp only [intOf]; omega
      · gi_wp2
        refine bodyPost_ret (results_none rfl _ _ _) rfl ?_
        exact ⟨⟨_, rfl⟩, .inr ⟨_, hsn, hJx3⟩⟩
    · have hst := hstop he
      clear hsnoc hstop hgz
      have h1 : ((r.2.2 : Int) != 0) = true := by simp [he]
      gi_wp2_with (refine ⟨trivial, ?_⟩; gi_at_call 16; refine (callsIn_wide.2 (HG.out _)).mono ?_; rintro e w2 ⟨rfl, hb⟩; have hJ2 := hJ pre wr w2 none hJs (Aid.only_of_below hb none) (fun r h => by cases h))
      refine bodyPost_ret (results_none rfl _ _ _) rfl ?_
      exact ⟨⟨_, rfl⟩, .inl ⟨pre, hst, hJ2⟩⟩
theorem each_stops (n : Nat) (hn : 1 ≤ n) (Bn : Nat) (F : ByteArray) (hF : F.size ≤ 1000000) (w : World) (hBn : Bn < w.heap.size) (hc : w.cell? ⟨Bn, 0, none⟩ = some (.string F)) :
    SeqStopsK Fence.wide n Try.prog 32 #[.pointer (some ⟨Bn, 0, none⟩)] vals (Lies Bn) (fun xs => xs = FSeq.steps (L F) 0) (fun pre => FSeq.Part (L F) pre) F.size w := fun l J Jx W hW hJ _ hY h0 =>
  each1_in n hn l Bn F hF J Jx W hJ ((hW.cell (p := ⟨Bn, 0, none⟩) hBn).trans hc) hY h0
theorem each_any (F : ByteArray) (w : World) :
    Calls Try.prog 28 #[.string F] w fun e w' => e = .returned (.func (.func 32) #[] #[.pointer (some ⟨w.heap.size, 0, none⟩)]) ∧ w' = w.alloc (.cells #[.string F] 9) := by
  refine (callsIn_wide (n := 2)).1 ?_
  refine callsIn_of_wp Try.func28 rfl trivial ?_ rfl
  simp only [Try.ntmps28, List.size_toArray, List.length_cons, List.length_nil, Nat.reduceAdd, Nat.reduceSub, Array.replicate_succ, Array.replicate_zero, List.push_toArray, List.append_toArray, List.nil_append, List.cons_append]
  gi_wp2
  go_ret
  exact ⟨rfl, rfl⟩
theorem info9 : (Try.prog.info? 9).map (fun i => (i.zero, i.size, i.bytes)) = some (some (.string ⟨#[]⟩), 1, 16) := by kernel_rfl
abbrev strV (x : List UInt8 × Nat) : Value := .string (B x.1)
/-- what All's variables hold when pre has come -/
def Holds (F : ByteArray) (n₀ : Nat) (w : World) (pre : List (List UInt8 × Nat)) (W : World) : Prop :=
  ((∃ v, Boxed W (n₀ + 1) 35 v ∧ W.ownsRow (n₀ + 4) 9 1 v pre.length (pre.map strV) ∧ True) ∧ Boxed W (n₀ + 1 + 1) 3 (.int .i64 (FSeq.endOf 0 pre : Int))) ∧ (Boxed W n₀ 9 (.string F) ∧ (Below n₀ w W ∧ n₀ + 4 ≤ W.heap.size))
theorem holds_own (F : ByteArray) (n₀ : Nat) (w : World) (Bd : Nat) (hn : n₀ ≤ w.heap.size) (hB : n₀ ≤ Bd) : OwnFrom Bd (Holds F n₀ w) :=
  OwnFrom.and (OwnFrom.and (Own.from (holdsRow_own (n₀ + 4) (n₀ + 1) 35 9 1 (fun pre : List (List UInt8 × Nat) => pre.length) (fun pre => pre.map strV) (fun _ _ => True)) _) (Own.from (boxed_own (n₀ + 1 + 1) 3 (fun pre : List (List UInt8 × Nat) => .int .i64 (FSeq.endOf 0 pre : Int))) _))
    (OwnFrom.and (Own.from (boxed_own n₀ 9 (fun _ : List (List UInt8 × Nat) => .string F)) _) (OwnFrom.and (ownFrom_below hn hB) (fun _ _ _ _ hs hg _ => Nat.le_trans hs hg.size)))
/-- what the two results hold at the end -/
structure Out (n₀ D : Nat) (w W : World) (v : Value) (pre : List (List UInt8 × Nat)) : Prop where
  l : Boxed W (n₀ + 1) 35 v
  u : Boxed W (n₀ + 1 + 1) 3 (.int .i64 (FSeq.endOf 0 pre : Int))
  row : W.ownsRow (n₀ + 4) 9 1 v pre.length (pre.map strV)
  deferred : W.heap[D]? = some (.deferred (some []))
  below : Below n₀ w W
theorem Out.again {n₀ D : Nat} {w W : World} {v : Value} {pre : List (List UInt8 × Nat)} (h : Out n₀ D w W v pre) (hD : n₀ + 4 ≤ D) : Out n₀ D w ((W.setCell ⟨n₀ + 1, 0, none⟩ v).setCell ⟨n₀ + 1 + 1, 0, none⟩ (.int .i64 (FSeq.endOf 0 pre : Int))) v pre := by
  have hl := h.row
  have hne : ∀ B, B < n₀ + 4 → some B ≠ v.ownBlock := fun B hB => by
    obtain ⟨_, ⟨rfl, _⟩ | ⟨g, cap, cur, rfl, hg, _⟩⟩ := hl
    · simp [Value.ownBlock]
    · simp only [Value.ownBlock, ne_eq, Option.some.injEq]
      omega
  refine ⟨(h.l.set v).other (by omega) _, (h.u.other (by omega) v).set _, ?_, ?_, (h.below.setCell (p := ⟨n₀ + 1, 0, none⟩) (by show n₀ ≤ n₀ + 1; omega) _).setCell (p := ⟨n₀ + 1 + 1, 0, none⟩) (by show n₀ ≤ n₀ + 1 + 1; omega) _⟩
  · exact (hl.kept (grownBy_setCell' W (n₀ + 1) v) (.inr (hne _ (by omega)).symm)).kept (grownBy_setCell' _ (n₀ + 1 + 1) _) (.inr (hne _ (by omega)).symm)
  · exact (Below.heap_setCell _ _ _ _ (by show D ≠ n₀ + 1 + 1; omega)).trans ((Below.heap_setCell _ _ _ _ (by show D ≠ n₀ + 1; omega)).trans h.deferred)
theorem Out.drew {n₀ D : Nat} {w W : World} {v : Value} {pre : List (List UInt8 × Nat)} (h : Out n₀ D w W v pre) : Out n₀ D w W.drew v pre := ⟨h.l, h.u, h.row, h.deferred, h.below.drew⟩
def Fin8 (n₀ D : Nat) (w : World) (v : Value) (pre : List (List UInt8 × Nat)) (err : Int) (e : Exit) (a : Act) (W : World) : Prop :=
  match e with
  | .normal => a.tmps[2]? = some (.pointer (some ⟨n₀ + 1, 0, none⟩)) ∧ a.tmps[3]? = some (.pointer (some ⟨n₀ + 1 + 1, 0, none⟩)) ∧ a.tmps[4]? = some (.int .i64 err) ∧ a.defers = [{ target := .collected D, args := #[] }] ∧ Out n₀ D w W v pre
  | _ => False
theorem row_slice {W : World} {b e size k : Nat} {v : Value} {xs : List Value} (h : W.ownsRow b e size v k xs) : ∃ A n c, v = .slice A n c := by
  obtain ⟨_, ⟨rfl, _⟩ | ⟨g, cap, cur, rfl, _⟩⟩ := h
  · exact ⟨_, _, _, rfl⟩
  · exact ⟨_, _, _, rfl⟩
theorem row_below {W W1 : World} {b e size k : Nat} {v : Value} {xs : List Value} (h : W.ownsRow b e size v k xs) (hb : Below W.heap.size W W1) : W1.ownsRow b e size v k xs := by
  have h0 := h
  obtain ⟨_, ⟨rfl, _⟩ | ⟨g, cap, cur, rfl, _⟩⟩ := h
  · exact h0.kept (Aid.only_of_below hb none) (.inl rfl)
  · exact h0.kept (Aid.only_of_below hb none) (.inr (by simp [Value.ownBlock]))
theorem blk {W W1 : World} {b t : Nat} {v : Value} (h : Boxed W b t v) (hb : Below W.heap.size W W1) : Boxed W1 b t v := (hb.block b h.lt).trans h
theorem row_lower {W : World} {b b' e size k : Nat} {v : Value} {xs : List Value} (h : W.ownsRow b e size v k xs) (hb : b' ≤ b) : W.ownsRow b' e size v k xs := by
  obtain ⟨h1, h2 | ⟨g, cap, cur, hv, hg, hr⟩⟩ := h
  · exact ⟨h1, .inl h2⟩
  · exact ⟨h1, .inr ⟨g, cap, cur, hv, Nat.le_trans hb hg, hr⟩⟩
theorem row_ne {W : World} {b e size k B : Nat} {v : Value} {xs : List Value} (h : W.ownsRow b e size v k xs) (hb : B < b) : some B ≠ v.ownBlock := by
  obtain ⟨_, ⟨rfl, _⟩ | ⟨g, cap, cur, rfl, hg, _⟩⟩ := h
  · simp [Value.ownBlock]
  · simp only [Value.ownBlock, ne_eq, Option.some.injEq]
    omega
/-- a round: what is appended, what is stored -/
theorem Holds.next {F : ByteArray} {n₀ : Nat} {w W w1 : World} {pre : List (List UInt8 × Nat)} {x : List UInt8 × Nat} {v v' : Value} {tmp : Obj} {m : Nat} (hl : Boxed W (n₀ + 1) 35 v) (hrow : W.ownsRow (n₀ + 4) 9 1 v pre.length (pre.map strV)) (hu : Boxed W (n₀ + 1 + 1) 3 (.int .i64 (FSeq.endOf 0 pre : Int))) (hs : Boxed W n₀ 9 (.string F)) (hB : Below n₀ w W) (h4 : n₀ + 4 ≤ W.heap.size)
    (hown' : w1.ownsRow (n₀ + 4) 9 1 v' m (pre.map strV ++ [strV x])) (hgrow : (W.alloc tmp).grownBy w1 v.ownBlock) (hm : m = pre.length + 1) :
    (Boxed w1 (n₀ + 1) 35 v ∧ Boxed (w1.setCell ⟨n₀ + 1, 0, none⟩ v') (n₀ + 1 + 1) 3 (.int .i64 (FSeq.endOf 0 pre : Int))) ∧
    Holds F n₀ w (pre ++ [x]) ((w1.setCell ⟨n₀ + 1, 0, none⟩ v').setCell ⟨n₀ + 1 + 1, 0, none⟩ (.int .i64 (x.2 : Int))) ∧
    KeepsOthers W ((w1.setCell ⟨n₀ + 1, 0, none⟩ v').setCell ⟨n₀ + 1 + 1, 0, none⟩ (.int .i64 (x.2 : Int))) ∧
    Lies (n₀ + 1 + 1 + 1) W ((w1.setCell ⟨n₀ + 1, 0, none⟩ v').setCell ⟨n₀ + 1 + 1, 0, none⟩ (.int .i64 (x.2 : Int))) := by
  subst hm
  have hWs : n₀ ≤ W.heap.size := by have := hl.lt; omega
  obtain ⟨hv1, hv2, _, hk2, hb2⟩ := hl.appended (by decide) (row_lower hrow (show n₀ ≤ n₀ + 4 by omega)) hWs (by omega) (row_lower hown' (show n₀ ≤ n₀ + 4 by omega)) hgrow
  have hu1 := (hu.alloc tmp).kept hgrow (row_ne hrow (by omega))
  have hs1 := (hs.alloc tmp).kept hgrow (row_ne hrow (by omega))
  have hu2 := hu1.other (B' := n₀ + 1) (by omega) v'
  have hs2 := hs1.other (B' := n₀ + 1) (by omega) v'
  have hr2 := (hown'.kept (grownBy_setCell' w1 (n₀ + 1) v') (.inr (row_ne hown' (by omega)).symm)).kept (grownBy_setCell' _ (n₀ + 1 + 1) (.int .i64 (x.2 : Int))) (.inr (row_ne hown' (by omega)).symm)
  refine ⟨⟨hv1, hu2⟩, ⟨⟨⟨v', hv2.other (by omega) _, ?_, trivial⟩, ?_⟩, hs2.other (by omega) _, ?_, ?_⟩, hk2.trans (KeepsOthers.setCell _ _ _), ?_⟩
  · rw [List.length_append, List.map_append]
    exact hr2
  · rw [FSeq.endOf_snoc]
    exact hu2.set _
  · exact (hB.trans hb2).setCell (p := ⟨n₀ + 1 + 1, 0, none⟩) (by show n₀ ≤ n₀ + 1 + 1; omega) _
  · have h5 := hgrow.size
    rw [World.size_alloc] at h5
    show n₀ + 4 ≤ ((w1.setCell _ _).setCell _ _).heap.size
    rw [World.size_setCell, World.size_setCell]
    omega
  · intro u hu0
    have hlt := World.block_lt_of_cell? W ⟨n₀ + 1 + 1 + 1, 0, none⟩ hu0
    have hb1 : ((w1.setCell ⟨n₀ + 1, 0, none⟩ v').setCell ⟨n₀ + 1 + 1, 0, none⟩ (.int .i64 (x.2 : Int))).heap[n₀ + 1 + 1 + 1]? = W.heap[n₀ + 1 + 1 + 1]? :=
      (Below.heap_setCell _ _ _ _ (by show n₀ + 1 + 1 + 1 ≠ n₀ + 1 + 1; omega)).trans ((Below.heap_setCell _ _ _ _ (by show n₀ + 1 + 1 + 1 ≠ n₀ + 1; omega)).trans ((hgrow.block _ (by rw [World.size_alloc]; exact Nat.lt_succ_of_lt hlt) (row_ne hrow (by omega))).trans (Below.heap_alloc W tmp _ hlt)))
    exact (World.cell?_of_block hb1).trans hu0
set_option maxRecDepth 100000 in
set_option maxHeartbeats 2000000 in
theorem all_any (F : ByteArray) (hF : F.size ≤ 1000000) (w : World) :
    Calls Try.prog 18 #[.string F] w fun e W' => ∃ v, e = .returned (.tuple #[v, .int .i64 ((PFrame.all (L F)).2.1 : Int), .int .i64 ((PFrame.all (L F)).2.2 : Int)]) ∧
      W'.ownsRow w.heap.size 9 1 v (PFrame.all (L F)).1.length ((PFrame.all (L F)).1.map fun s => .string (B s)) ∧ Below w.heap.size w W' := by
  refine (callsIn_wide (n := 6)).1 ?_
  have h1 : 1 ≤ 6 := by omega
  obtain ⟨i0, hi, hz0, hz1, hz2⟩ := info_parts info9
  refine callsIn_of_wp_marks Try.func18 rfl trivial ?_ rfl
  simp only [Try.ntmps18, List.size_toArray, List.length_cons, List.length_nil, Nat.reduceAdd, Nat.reduceSub, Array.replicate_succ, Array.replicate_zero, List.push_toArray, List.append_toArray, List.nil_append, List.cons_append]
  gi_wp2_with (refine ⟨trivial, ?_⟩; gi_at_call 28; refine (callsIn_wide.2 (each_any _ _)).mono ?_; rintro e w' ⟨rfl, rfl⟩)
  refine wpIn_scope ?_
  refine wpIn_seq (wpIn_label ?_)
  show Code.wpIn _ _ _ _ (noGotoIn _) _ _
  gi_wp2_with (refine ⟨trivial, ?_⟩; gi_at_call 28; refine (callsIn_wide.2 (each_any _ _)).mono ?_; rintro e w' ⟨rfl, rfl⟩)
  rename_i K0 a0
  have bS := Boxed.new w 9 (.string F)
  have bL := Boxed.new (w.alloc (.cells #[.string F] 9)) 35 (.slice none 0 0)
  have bU := Boxed.new ((w.alloc (.cells #[.string F] 9)).alloc (.cells #[.slice none 0 0] 35)) 3 (.int .i64 0)
  have bC := Boxed.new (((w.alloc (.cells #[.string F] 9)).alloc (.cells #[.slice none 0 0] 35)).alloc (.cells #[.int .i64 0] 3)) 9 (.string F)
  have hB0 : Below w.heap.size w ((((w.alloc (.cells #[.string F] 9)).alloc (.cells #[.slice none 0 0] 35)).alloc (.cells #[.int .i64 0] 3)).alloc (.cells #[.string F] 9)) := ((((Below.refl _ w).alloc (Nat.le_refl _) _).alloc (by simp) _).alloc (by simp; omega) _).alloc (by simp; omega) _
  have hsz0 : ((((w.alloc (.cells #[.string F] 9)).alloc (.cells #[.slice none 0 0] 35)).alloc (.cells #[.int .i64 0] 3)).alloc (.cells #[.string F] 9)).heap.size = w.heap.size + 4 := by simp
  simp only [World.size_alloc] at bL bU bC
  have bS4 := ((bS.alloc (.cells #[.slice none 0 0] 35)).alloc (.cells #[.int .i64 0] 3)).alloc (.cells #[.string F] 9)
  have bL4 := (bL.alloc (.cells #[.int .i64 0] 3)).alloc (.cells #[.string F] 9)
  have bU4 := bU.alloc (.cells #[.string F] 9)
  clear bS bL bU
  generalize (((w.alloc (.cells #[.string F] 9)).alloc (.cells #[.slice none 0 0] 35)).alloc (.cells #[.int .i64 0] 3)).alloc (.cells #[.string F] 9) = W0 at bS4 bL4 bU4 bC hB0 hsz0 ⊢
  have hstart : Holds F w.heap.size w [] W0 := ⟨⟨⟨_, bL4, World.ownsRow_nil _ _ _ _, trivial⟩, bU4⟩, bS4, hB0, by omega⟩
  have hrest : ∀ (D : Nat) (pre : List (List UInt8 × Nat)) (W : World), w.heap.size + 4 ≤ D → pre = FSeq.steps (L F) 0 → Holds F w.heap.size w pre W → W.heap[D]? = some (.deferred (some [])) →
      K0 { tmps := #[.string F, .pointer (some ⟨w.heap.size, 0, none⟩), .pointer (some ⟨w.heap.size + 1, 0, none⟩), .pointer (some ⟨w.heap.size + 1 + 1, 0, none⟩), .int .i64 0, undef, undef, .string F, .func (.func 32) #[] #[.pointer (some ⟨w.heap.size + 1 + 1 + 1, 0, none⟩)], undef, undef, undef, undef, undef, undef, undef, undef, undef, undef, undef, undef, undef, undef, undef, undef, undef, undef, undef, undef, undef, undef, undef, undef, undef, undef], defers := [{ target := .collected D, args := #[] }] } W := by
    rintro D pre W hD hpre ⟨⟨⟨v, hl, hrow, _⟩, hu⟩, hs, hB, _⟩ hK
    refine a0 _ _ ?_
    clear a0
    have hlc := hl.cell
    have hlf := hl.frozen
    have huc := hu.cell
    have huf := hu.frozen
    have hsc := hs.cell
    have hg := get_any (F.extract (FSeq.endOf 0 pre) F.size) (by rw [ByteArray.size_extract]; omega)
    rw [show L (F.extract (FSeq.endOf 0 pre) F.size) = (L F).drop (FSeq.endOf 0 pre) from L_drop F _] at hg
    have HG := Lib.hid hg
    clear hg
    have hall := FSeq.all_of (L F)
    rw [← hpre, L_length] at hall
    have HA := Lib.hid hall
    clear hall hpre
    clear bS4 bL4 bU4 bC hB0 hsz0 hstart
    obtain ⟨A0, n0, c0, rfl⟩ := row_slice hrow
    by_cases hlt : FSeq.endOf 0 pre < F.size
    · have h2 : ((FSeq.endOf 0 pre : Int) < (F.size : Int)) = True := eq_true (by omega)
      gi_wp2_with (refine ⟨trivial, ?_⟩; gi_at_call 16; refine (callsIn_wide.2 (HG.out _)).mono ?_; rintro e w2 ⟨rfl, hb⟩; have hl2 : Boxed w2 _ _ _ := blk hl hb; have hu2 : Boxed w2 _ _ _ := blk hu hb; have hlc2 := hl2.cell; have hlf2 := hl2.frozen; have huc2 := hu2.cell; have huf2 := hu2.frozen)
      have hout : Out w.heap.size D w w2.drew (.slice A0 n0 c0) pre := ⟨hl2, hu2, row_below hrow hb.drew, (hb.block D (Array.getElem?_eq_some_iff.1 hK).1).trans hK, (Aid.below_then hB hb).drew⟩
      clear hlc hlf huc huf hsc
      rename_i K1 a1
      refine wpIn_mono (Q := Fin8 w.heap.size D w (.slice A0 n0 c0) pre ((PFrame.get ((L F).drop (FSeq.endOf 0 pre))).2.2 : Int)) ?reg ?out
      case out =>
        rintro e a W5 h
        match e, h with
        | .normal, h =>
          obtain ⟨g2, g3, g4, gd, ho⟩ := h
          obtain ⟨tm, df⟩ := a
          simp only at g2 g3 g4 gd
          subst gd
          refine a1 _ _ ?_
          refine wpIn_ret ?_
          have hlc5 := ho.l.cell
          have huc5 := ho.u.cell
          refine ⟨by simp, .inl ⟨_, _, rfl, run_takeDeferred ho.deferred, ?_⟩⟩
          have hl6 := ho.l.kept (grownBy_putObj' W5 D (.deferred none)) (fun e => by injection e with e; omega)
          have hu6 := ho.u.kept (grownBy_putObj' W5 D (.deferred none)) (fun e => by injection e with e; omega)
          have k1 := hl6.cell
          have k2 := hu6.cell
          have hr6 := ownsRow_putObj ho.row (.deferred none) ho.deferred rfl
          have ha := HA.out
          rw [if_pos hlt] at ha
          refine ⟨.tuple #[.slice A0 n0 c0, .int .i64 (FSeq.endOf 0 pre : Int), .int .i64 ((PFrame.get ((L F).drop (FSeq.endOf 0 pre))).2.2 : Int)], by simp [results, Try.results18, go_sem, k1, k2, g2, g3, g4], .slice A0 n0 c0, ?_, ?_, ho.below.trans (belowK_b (w := w) (Nat.le_refl _) W5 D _ _ (by omega) ho.deferred rfl rfl)⟩
          · rw [ha]
            try rfl
          · rw [ha]
            have hr7 := row_lower hr6 (show w.heap.size ≤ w.heap.size + 4 by omega)
            simp only [List.length_map, List.map_map]
            exact hr7
      case reg =>
        clear a1
        gi_region
        all_goals exact ⟨rfl, rfl, rfl, rfl, hout.again hD⟩
    · have h2 : ((FSeq.endOf 0 pre : Int) < (F.size : Int)) = False := eq_false (by omega)
      gi_wp2_with fail
      have hout : Out w.heap.size D w W.drew (.slice A0 n0 c0) pre := ⟨hl, hu, hrow, hK, hB.drew⟩
      rename_i K1 a1
      refine wpIn_mono (Q := Fin8 w.heap.size D w (.slice A0 n0 c0) pre (0 : Int)) ?reg ?out
      case out =>
        rintro e a W5 h
        match e, h with
        | .normal, h =>
          obtain ⟨g2, g3, g4, gd, ho⟩ := h
          obtain ⟨tm, df⟩ := a
          simp only at g2 g3 g4 gd
          subst gd
          refine a1 _ _ ?_
          refine wpIn_ret ?_
          have hlc5 := ho.l.cell
          have huc5 := ho.u.cell
          refine ⟨by simp, .inl ⟨_, _, rfl, run_takeDeferred ho.deferred, ?_⟩⟩
          have hl6 := ho.l.kept (grownBy_putObj' W5 D (.deferred none)) (fun e => by injection e with e; omega)
          have hu6 := ho.u.kept (grownBy_putObj' W5 D (.deferred none)) (fun e => by injection e with e; omega)
          have k1 := hl6.cell
          have k2 := hu6.cell
          have hr6 := ownsRow_putObj ho.row (.deferred none) ho.deferred rfl
          have ha := HA.out
          rw [if_neg hlt] at ha
          refine ⟨.tuple #[.slice A0 n0 c0, .int .i64 (FSeq.endOf 0 pre : Int), .int .i64 (0 : Int)], by simp [results, Try.results18, go_sem, k1, k2, g2, g3, g4], .slice A0 n0 c0, ?_, ?_, ho.below.trans (belowK_b (w := w) (Nat.le_refl _) W5 D _ _ (by omega) ho.deferred rfl rfl)⟩
          · rw [ha]
            try rfl
          · rw [ha]
            have hr7 := row_lower hr6 (show w.heap.size ≤ w.heap.size + 4 by omega)
            simp only [List.length_map, List.map_map]
            exact hr7
      case reg =>
        clear a1
        gi_region
        all_goals exact ⟨rfl, rfl, rfl, rfl, hout.again hD⟩
  refine wpIn_rangeFunc_ownG rfl h1 (gf := 32) (lb := #[.pointer (some ⟨w.heap.size + 1 + 1 + 1, 0, none⟩)]) rfl trivial (enters_of Try.func32 (by kernel_rfl) rfl)
    (each_stops (6 - 1) (by omega) (w.heap.size + 1 + 1 + 1) F hF W0 (by omega) bC.cell) (fun h1 h2 v hv => h2 v (h1 v hv))
    (fun W l o o' hl ho hc _ v hv => cell_kept hv (grownBy_putObj' W l o') (fun r e => by cases e; exact ⟨o, ho, hc⟩)) (Below.refl _ _) (fun _ => rfl)
    (fun pre W => Holds F w.heap.size w pre W) (fun c pre W => (c = .exit 0 ∧ FSeq.endOf 0 pre = F.size) ∧ Holds F w.heap.size w pre W)
    (holds_own F w.heap.size w _ (Nat.le_refl _) (by omega)) (fun c => OwnFrom.and (ownFrom_pure _ (fun pre => c = .exit 0 ∧ FSeq.endOf 0 pre = F.size)) (holds_own F w.heap.size w _ (Nat.le_refl _) (by omega))) hstart
    (fun x => { tmps := #[.string F, .pointer (some ⟨w.heap.size, 0, none⟩), .pointer (some ⟨w.heap.size + 1, 0, none⟩), .pointer (some ⟨w.heap.size + 1 + 1, 0, none⟩), .int .i64 0, strV x, .int .i64 (x.2 : Int), .string F, .func (.func 32) #[] #[.pointer (some ⟨w.heap.size + 1 + 1 + 1, 0, none⟩)], strV x, .int .i64 (x.2 : Int), undef, undef, undef, undef, undef, undef, undef, undef, undef, undef, undef, undef, undef, undef, undef, undef, undef, undef, undef, undef, undef, undef, undef, undef], defers := [] }) ?assign ?body ?done ?stop
  case assign =>
    intro l x W K hK
    gi_wp2
    exact hK
  case body =>
    rintro l pre x W ⟨⟨⟨v, hl, hrow, _⟩, hu⟩, hs, hB, hlt2⟩ hlt
    have hc := hl.cell
    have hsz : w.heap.size ≤ W.heap.size := hB.size
    have hm : maxLen = 9223372036854775807 := rfl
    by_cases hx : x.2 = F.size
    · have h2 : ((x.2 : Int) == (F.size : Int)) = true := by simp [hx]
      have HX := Lib.hid hx
      clear hx
      gi_wp2_with (gi_at_builtin; refine wpListIn_append_own _ rfl _ _ 35 rfl (w.heap.size + 4) 9 i0 (.string ⟨#[]⟩) 1 16 Try.underlying35 hi hz0 hz1 hz2 rfl (by decide) _ _ _ rfl (hrow.alloc _) ⟨W.heap.size, 0, none⟩ 1 1 [strV x] rfl rfl (cell_one_new _ _ _) (by simp [Value.oneCell']) (by omega) (by omega) (by simp; omega) ?_; intro v' w1 hown' hgrow _; obtain ⟨g', cap', rfl⟩ := ownsRow_succ hown'; obtain ⟨⟨hv1, hu2⟩, hH, hK, hL⟩ := Holds.next hl hrow hu hs hB hlt2 hown' hgrow rfl; have hc1 := hv1.cell; have hf1 := hv1.frozen; have hc2 := hu2.cell; have hf2 := hu2.frozen; have hc3 := hH.1.2.cell; have hc4 := hH.2.1.cell; rw [FSeq.endOf_snoc] at hc3)
      exact ⟨hK.from _, ⟨rfl, by rw [FSeq.endOf_snoc]; exact HX.out⟩, hH⟩
    · have h2 : ((x.2 : Int) == (F.size : Int)) = false := by simp; omega
      gi_wp2_with (gi_at_builtin; refine wpListIn_append_own _ rfl _ _ 35 rfl (w.heap.size + 4) 9 i0 (.string ⟨#[]⟩) 1 16 Try.underlying35 hi hz0 hz1 hz2 rfl (by decide) _ _ _ rfl (hrow.alloc _) ⟨W.heap.size, 0, none⟩ 1 1 [strV x] rfl rfl (cell_one_new _ _ _) (by simp [Value.oneCell']) (by omega) (by omega) (by simp; omega) ?_; intro v' w1 hown' hgrow _; obtain ⟨g', cap', rfl⟩ := ownsRow_succ hown'; obtain ⟨⟨hv1, hu2⟩, hH, hK, hL⟩ := Holds.next hl hrow hu hs hB hlt2 hown' hgrow rfl; have hc1 := hv1.cell; have hf1 := hv1.frozen; have hc2 := hu2.cell; have hf2 := hu2.frozen; have hc3 := hH.1.2.cell; have hc4 := hH.2.1.cell; rw [FSeq.endOf_snoc] at hc3)
      exact ⟨hK.from _, hL, hH⟩
  case done =>
    rintro D xs W hD hxs hI hK
    exact hrest D xs W (by omega) hxs hI hK
  case stop =>
    rintro D c pre W hD hP ⟨⟨rfl, he⟩, hI⟩ hK
    gi_wp2
    exact hrest D pre W (by omega) (hP.full (by rw [L_length]; exact he)) hI hK
end Go.Proofs.Ytfibccfbcehheaa.FAll
