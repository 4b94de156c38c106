/- Texts of this claim, joined by a program of this session (wip/pack.py): BlockW. -/
import Derived.Lib.AppendStr
import Derived.Deep.AppendLies
import Derived.Deep.RegionHeld3
import Derived.Deep.RegionLaw
import Derived.BigQuiet
import Derived.Test.YtaigmemmgjlhgaaQTableNone3
import Derived.Test.YtaigmemmgjlhgaaQTableNone5
import Derived.Test.YtaigmemmgjlhgaaQTableNone15
-- BlockW
namespace Go.Proofs.Ytaigmemmgjlhgaa.Block
open Go.RowKit Aid Txt Print Go.Proofs.YtaigmemmgjlhgaaW.PrintWords
theorem infoU8 : (Try.prog.info? 5).map (fun i => (i.zero, i.size, i.bytes)) = some (some (.int .u8 0), 1, 1) := by kernel_rfl
/-- what the writer knows: where the bytes lie, the last key, and where the bytes' variable lies -/
structure W3 (w0 w : World) (b1 b2 b3 : Nat) (v : Value) (xs last : ByteArray) : Prop where
  out : Blk w b1 55 #[v]
  lst : Blk w b2 9 #[.string last]
  ptr : Blk w b3 95 #[.pointer (some ⟨b1, 0, none⟩)]
  row : w.ownsRow w0.heap.size 5 1 v xs.size (Lib.strCells xs)
  g1 : w0.heap.size ≤ b1
  g2 : w0.heap.size ≤ b2
  g3 : w0.heap.size ≤ b3
  low : Below w0.heap.size w0 w
section
variable {w0 w w' : World} {b1 b2 b3 : Nat} {v : Value} {xs last : ByteArray}
theorem W3.below (h : W3 w0 w b1 b2 b3 v xs last) (hb : Below w.heap.size w w') : W3 w0 w' b1 b2 b3 v xs last :=
  ⟨h.out.below hb h.out.lt, h.lst.below hb h.lst.lt, h.ptr.below hb h.ptr.lt, h.row.kept (only_of_below hb none) (by cases e : v.ownBlock with | none => exact .inl rfl | some k => exact .inr (by simp)), h.g1, h.g2, h.g3, below_then h.low hb⟩
theorem W3.alloc (h : W3 w0 w b1 b2 b3 v xs last) (o : Obj) : W3 w0 (w.alloc o) b1 b2 b3 v xs last := h.below ((Below.refl _ _).alloc (Nat.le_refl _) o)
theorem W3.drewN (h : W3 w0 w b1 b2 b3 v xs last) (n : Nat) : W3 w0 (w.drewN n) b1 b2 b3 v xs last := h.below (below_drewN (Below.refl _ _) n)
theorem W3.drew (h : W3 w0 w b1 b2 b3 v xs last) : W3 w0 w.drew b1 b2 b3 v xs last := h.below (Below.refl _ _).drew
theorem own_far {w w' : World} {base : Nat} {e : TypeId} {size n : Nat} {v : Value} {xs : List Value} (h : w.ownsRow base e size v n xs) {g : Nat} (hg : w.grownBy w' (some g)) (hne : v.ownBlock ≠ some g) : w'.ownsRow base e size v n xs := h.kept hg (.inr hne)
/-- bytes are appended, and the variables are written -/
theorem W3.put (h : W3 w0 w b1 b2 b3 v xs last) {s : ByteArray} {v' : Value} (ho : w'.ownsRow w0.heap.size 5 1 v' (xs.size + s.size) (Lib.strCells xs ++ Lib.strCells s)) (hg : w.grownBy w' v.ownBlock) (key : ByteArray) :
    W3 w0 ((w'.setCell ⟨b1, 0, none⟩ v').setCell ⟨b2, 0, none⟩ (.string key)) b1 b2 b3 v' (xs ++ s) key := by
  have n1 := own_blk_ne h.row h.out (by decide)
  have n2 := own_blk_ne h.row h.lst (by decide)
  have n3 := own_blk_ne h.row h.ptr (by decide)
  have o1 := h.out.grown hg (fun e => n1 e.symm)
  have o2 := h.lst.grown hg (fun e => n2 e.symm)
  have o3 := h.ptr.grown hg (fun e => n3 e.symm)
  have m1 := own_blk_ne ho o1 (by decide)
  have m2 := own_blk_ne ho o2 (by decide)
  have n12 : b1 ≠ b2 := h.out.ne_ h.lst (by decide)
  have n13 : b1 ≠ b3 := h.out.ne_ h.ptr (by decide)
  have n23 : b2 ≠ b3 := h.lst.ne_ h.ptr (by decide)
  have ob : ∀ k, v.ownBlock = some k → w0.heap.size ≤ k := fun k hk => (h.row.lt k hk).1
  have low1 : Below w0.heap.size w0 w' := by
    cases e : v.ownBlock with
    | none => rw [e] at hg; exact ⟨hg.os.trans h.low.os, hg.tape.trans h.low.tape, hg.output.trans h.low.output, Nat.le_trans h.low.size hg.size, fun i hi => (hg.block i (Nat.lt_of_lt_of_le hi h.low.size) (by simp)).trans (h.low.block i hi)⟩
    | some k => rw [e] at hg; exact below_of_only h.low (ob k e) hg
  have k1 := only_set (only_refl w' (some b1)) (p := ⟨b1, 0, none⟩) (.inl rfl) v'
  have k2 := only_set (only_refl (w'.setCell ⟨b1, 0, none⟩ v') (some b2)) (p := ⟨b2, 0, none⟩) (.inl rfl) (.string key)
  have hcells : Lib.strCells xs ++ Lib.strCells s = Lib.strCells (xs ++ s) := by simp [Lib.strCells]
  refine ⟨((o1.set_ 0 v').far n12 _), (o2.far (Ne.symm n12) _).set_ 0 _, (o3.far (Ne.symm n13) _).far (Ne.symm n23) _, ?_, h.g1, h.g2, h.g3, below_of_only (below_of_only low1 h.g1 k1) h.g2 k2⟩
  rw [← hcells, ByteArray.size_append]
  exact own_far (own_far ho k1 m1) k2 m2
/-- what an append leaves alone -/
theorem W3.kept (h : W3 w0 w b1 b2 b3 v xs last) {g : Nat} {key : ByteArray} {x y z : Value} (hI : Blk w g 28 #[.string key, x, y, z]) (hg : w.grownBy w' v.ownBlock) :
    w'.cell? ⟨g, 0, none⟩ = some (.string key) ∧ w'.cell? ⟨b3, 0, none⟩ = some (.pointer (some ⟨b1, 0, none⟩)) :=
  ⟨((hI.grown hg (fun e => own_blk_ne h.row hI (by decide) e.symm)).cell 0).trans rfl, ((h.ptr.grown hg (fun e => own_blk_ne h.row h.ptr (by decide) e.symm)).cell 0).trans rfl⟩
end
theorem own_slice {w : World} {base : Nat} {e : TypeId} {size n : Nat} {v : Value} {xs : List Value} (h : w.ownsRow base e size v n xs) : ∃ A m c, v = .slice A m c := by
  rcases h.2 with ⟨rfl, _⟩ | ⟨g, cap, cur, rfl, _⟩
  · exact ⟨_, _, _, rfl⟩
  · exact ⟨_, _, _, rfl⟩
/-- append(b, s...) at a step of a region that draws its order -/
theorem step_append_string {P : Program} {ops : Array Oper} {o : Oper} {a : Act} {w : World} {K : Act → World → Prop} {Q : Exit → Act → World → Prop} {E : Prop} (hgd : o.guard = none) (sl x : Operand) (t u : TypeId)
    (ho : o.op = .call { callee := .builtin .append, args := #[sl, x], argTypes := #[t, u] })
    (base : Nat) (e : TypeId) (i : TypeInfo) (ht : P.underlying t = some (.slice e)) (hu : P.underlying u = some .string) (hi : P.info? e = some i) (hz : i.zero = some (.int .u8 0))
    (hsize : i.size = 1) (hby : i.bytes = 1)
    (v : Value) (n : Nat) (xs : List Value) (hs : a.eval sl = v) (hown : w.ownsRow base e 1 v n xs) (s : ByteArray) (hx : a.eval x = .string s)
    (h63 : n + s.size ≤ maxLen) (hbytes : n + s.size ≤ 140737488355328) (hbase : base ≤ w.heap.size)
    (h : ∀ v' w', w'.ownsRow base e 1 v' (n + s.size) (xs ++ Lib.strCells s) → w.grownBy w' v.ownBlock → K (a.put o.dst v') w') :
    if Region.wanted o (yielded ops a.tmps) = true then Oper.wp P o a w K Q else E := by
  have hw : Region.wanted o (yielded ops a.tmps) = true := by simp [Region.wanted, hgd]
  rw [if_pos hw]
  obtain ⟨v', w', hr, h2, h3, h4⟩ := Lib.run_append_own_string (P := P) w base t u o.type e i ht hu hi hz hsize hby v n xs hown s h63 hbytes hbase
  unfold Oper.wp execOp
  simp only [ho, resolve, invoke, builtin, Sem.run_bind, Sem.run_pure, Result.andThen_ok, List.map_toArray, List.map_cons, List.map_nil, hs, hx, hr]
  exact h v' w' h2 h3
/-- bytes that are owned, as a text -/
theorem conv_str {w : World} {base n : Nat} {v : Value} (s : ByteArray) (h : w.ownsRow base 5 1 v n (Lib.strCells s)) : (convert 55 9 v).run Try.prog w = .ok (.string s) w := by
  have e : Lib.strCells s = nums .u8 ((L s).map fun c => (c.toNat : Int)) := by simp [Lib.strCells, nums]
  rw [e] at h
  have h2 := own_string (P := Try.prog) Try.underlying55 Try.underlying5 Try.underlying9 h
  have e2 : strOfNums ((L s).map fun c => (c.toNat : Int)) = s := by
    apply L_inj
    rw [L_nums, List.map_map]
    have : ((fun n : Int => UInt8.ofNat n.toNat) ∘ fun c : UInt8 => (c.toNat : Int)) = id := by funext c; simp
    rw [this, List.map_id]
  rw [e2] at h2
  exact h2
end Go.Proofs.Ytaigmemmgjlhgaa.Block
