/- Texts of this claim, joined by a program of this session (wip/pack.py): TabS, TabT, TabU, TabK, TabRa, TabRc, TabRd, TabRe. -/
import Derived.Maps.OwnIn
import Derived.Deep.DeepCutAuto
import Derived.StillTailTactics
import Derived.Test.YtaigmemmgjlhgaaQTableBuild4
import Derived.Test.YtaigmemmgjlhgaaQTableBuild15
import Derived.Test.YtaigmemmgjlhgaaQTableBuild18
import Derived.Test.YtaigmemmgjlhgaaQTableBuild20
import Derived.Test.YtaigmemmgjlhgaaQTableBuild22
import Derived.Test.YtaigmemmgjlhgaaQTableBuild23
import Derived.Test.YtaigmemmgjlhgaaQTableBuild25
-- TabS
namespace Go.Proofs.Ytaigmemmgjlhgaa.Tab
open Go.RowKit Go.Shelf Aid Txt Print PLink Block Bits Go.Proofs.YtaigmemmgjlhgaaW.PrintWords
attribute [local go_sem] Oper.semAt_some
attribute [local go_sem] run_store_func
structure SB (w wr : World) (bt : Nat) (a b : ByteArray) (r : Value) (e : Int) (v : Value) (ok : Nat → Prop) (out : List S28) : Prop where
 x3 : Blk wr w.heap.size 23 #[.pointer (some ⟨bt, 0, none⟩)]
 x4 : Blk wr (w.heap.size + 1) 9 #[.string a]
 x5 : Blk wr (w.heap.size + 1 + 1) 9 #[.string b]
 x6 : Blk wr (w.heap.size + 1 + 1 + 1) 32 #[r]
 x7 : Blk wr (w.heap.size + 1 + 1 + 1 + 1) 29 #[.int .i64 e]
 x8 : Blk wr (w.heap.size + 1 + 1 + 1 + 1 + 1) 32 #[v]
 row : Kd.R k28 28 wr w.heap.size ok v out
 low : Below w.heap.size w wr
section
variable {w wr w' : World} {bt : Nat} {a b : ByteArray} {r : Value} {e : Int} {v : Value} {ok : Nat → Prop} {out : List S28}
theorem SB.below (h : SB w wr bt a b r e v ok out) (hb : Below wr.heap.size wr w') : SB w w' bt a b r e v ok out :=
 ⟨h.x3.below hb h.x3.lt, h.x4.below hb h.x4.lt, h.x5.below hb h.x5.lt, h.x6.below hb h.x6.lt, h.x7.below hb h.x7.lt, h.x8.below hb h.x8.lt, Kd.R_below h.row hb, q0d h.low hb⟩
theorem SB.wide (h : SB w wr bt a b r e v ok out) : SB w wr bt a b r e v (fun _ => True) out :=
 ⟨h.x3, h.x4, h.x5, h.x6, h.x7, h.x8, Kd.R_mono h.row (fun _ _ => trivial), h.low⟩
theorem SB.own {row : Option Nat} (h : SB w wr bt a b r e v ok out) (hg : wr.grownBy w' row) (hr : ∀ r, row = some r → w.heap.size ≤ r ∧ ∃ o : Obj, wr.heap[r]? = some o ∧ o.isCells = false) : SB w w' bt a b r e v ok out := by
 refine ⟨q0y h.x3 hg (fun r e => (hr r e).2), q0y h.x4 hg (fun r e => (hr r e).2), q0y h.x5 hg (fun r e => (hr r e).2), q0y h.x6 hg (fun r e => (hr r e).2), q0y h.x7 hg (fun r e => (hr r e).2), q0y h.x8 hg (fun r e => (hr r e).2), ?_, low_own h.low hg (fun r e => (hr r e).1)⟩
 refine Kd.R_mono (Kd.R_grown (Kd.R_bound h.row) hg fun k hk e => ?_) (fun _ hk => hk.1)
 obtain ⟨_, _, _, q, _, cells, hc⟩ := hk
 obtain ⟨o, ho, hn⟩ := (hr k e.symm).2
 rw [hc] at ho
 injection ho with ho
 subst ho
 cases hn
theorem SB.push {W1 w1 : World} {v' : Value} {x : S28} (h : SB w wr bt a b r e v ok out) (hW1 : Below wr.heap.size wr W1) (hg : W1.grownBy w1 v.ownBlock) (hR : Kd.R k28 28 w1 w.heap.size ok v' (out ++ [x])) :
  SB w (w1.setCell ⟨w.heap.size + 1 + 1 + 1 + 1 + 1, 0, none⟩ v') bt a b r e v' ok (out ++ [x]) := by
 have g := h.below hW1
 have n3 := Kd.R_ne g.row g.x3 (by decide)
 have n4 := Kd.R_ne g.row g.x4 (by decide)
 have n5 := Kd.R_ne g.row g.x5 (by decide)
 have n6 := Kd.R_ne g.row g.x6 (by decide)
 have n7 := Kd.R_ne g.row g.x7 (by decide)
 have n8 := Kd.R_ne g.row g.x8 (by decide)
 have y8 := g.x8.grown hg n8
 exact ⟨(g.x3.grown hg n3).far (by dsimp only; omega) _, (g.x4.grown hg n4).far (by dsimp only; omega) _, (g.x5.grown hg n5).far (by dsimp only; omega) _, (g.x6.grown hg n6).far (by dsimp only; omega) _, (g.x7.grown hg n7).far (by dsimp only; omega) _, y8.set_ 0 _,
  Kd.R_set hR y8 (by intro q hq; rw [List.mem_singleton.1 hq]; decide) 0 _,
  (g.low.trans ((Below.refl _ W1).grown hg g.low.size (fun k e => Kd.R_base g.row k e))).setCell (p := ⟨w.heap.size + 1 + 1 + 1 + 1 + 1, 0, none⟩) (by show w.heap.size ≤ w.heap.size + 1 + 1 + 1 + 1 + 1; omega) _⟩
theorem SB.write (h : SB w wr bt a b r e v ok out) (r' : Value) (e' : Int) : SB w ((wr.setCell ⟨w.heap.size + 1 + 1 + 1, 0, none⟩ r').setCell ⟨w.heap.size + 1 + 1 + 1 + 1, 0, none⟩ (.int .i64 e')) bt a b r' e' v ok out := by
 refine ⟨?_, ?_, ?_, ?_, ?_, ?_, ?_, ?_⟩
 ·exact (h.x3.far (by dsimp only; omega) _).far (by dsimp only; omega) _
 ·exact (h.x4.far (by dsimp only; omega) _).far (by dsimp only; omega) _
 ·exact (h.x5.far (by dsimp only; omega) _).far (by dsimp only; omega) _
 ·exact (h.x6.set_ 0 _).far (by dsimp only; omega) _
 ·exact (h.x7.far (by dsimp only; omega) _).set_ 0 _
 ·exact (h.x8.far (by dsimp only; omega) _).far (by dsimp only; omega) _
 ·exact Kd.R_set (Kd.R_set h.row h.x6 (by intro q hq; rw [List.mem_singleton.1 hq]; decide) 0 _) (h.x7.far (by dsimp only; omega) _) (by intro q hq; rw [List.mem_singleton.1 hq]; decide) 0 _
 ·exact (h.low.setCell (p := ⟨w.heap.size + 1 + 1 + 1, 0, none⟩) (by show w.heap.size ≤ w.heap.size + 1 + 1 + 1; omega) _).setCell (p := ⟨w.heap.size + 1 + 1 + 1 + 1, 0, none⟩) (by show w.heap.size ≤ w.heap.size + 1 + 1 + 1 + 1; omega) _
end
theorem SI.push {w wr W1 w1 : World} {bt b1 b2 b4 : Nat} {key : ByteArray} {a b : ByteArray} {r : Value} {e : Int} {v v' : Value} {ok : Nat → Prop} {out : List S28} (g : SI w wr bt b1 b2 b4 key) (h : SB w wr bt a b r e v ok out) (hW1 : Below wr.heap.size wr W1) (hg : W1.grownBy w1 v.ownBlock) :
  SI w (w1.setCell ⟨w.heap.size + 1 + 1 + 1 + 1 + 1, 0, none⟩ v') bt b1 b2 b4 key := by
 have k := h.below hW1
 have g := g.below hW1
 have n1 := Kd.R_ne k.row g.x1 (by decide)
 have n2 := Kd.R_ne k.row g.x2 (by decide)
 have n4 := Kd.R_ne k.row g.x4 (by decide)
 have m1 : b1 ≠ w.heap.size + 1 + 1 + 1 + 1 + 1 := g.x1.ne_ k.x8 (by decide)
 have m2 : b2 ≠ w.heap.size + 1 + 1 + 1 + 1 + 1 := g.x2.ne_ k.x8 (by decide)
 have m4 : b4 ≠ w.heap.size + 1 + 1 + 1 + 1 + 1 := g.x4.ne_ k.x8 (by decide)
 exact ⟨(k.low.trans ((Below.refl _ W1).grown hg k.low.size (fun k' e => Kd.R_base k.row k' e))).setCell (p := ⟨w.heap.size + 1 + 1 + 1 + 1 + 1, 0, none⟩) (by show w.heap.size ≤ w.heap.size + 1 + 1 + 1 + 1 + 1; omega) _,
  (g.x1.grown hg n1).far m1 _, (g.x2.grown hg n2).far m2 _, (g.x4.grown hg n4).far m4 _⟩
theorem SB.new (w : World) (bt : Nat) (a b : ByteArray) :
  SB w ((((((w.alloc (.cells #[.pointer (some ⟨bt, 0, none⟩)] 23)).alloc (.cells #[.string a] 9)).alloc (.cells #[.string b] 9)).alloc (.cells #[.slice none 0 0] 32)).alloc (.cells #[.int .i64 0] 29)).alloc (.cells #[.slice none 0 0] 32)) bt a b (.slice none 0 0) 0 (.slice none 0 0) (fun _ => True) [] := by
 generalize h1 : w.alloc (.cells #[.pointer (some ⟨bt, 0, none⟩)] 23) = w1
 have e1 : w1.heap.size = w.heap.size + 1 := by rw [← h1]; simp
 have a3 : Blk w1 w.heap.size 23 #[.pointer (some ⟨bt, 0, none⟩)] := by rw [← h1]; exact Blk.new w _ _
 have b1 : Below w.heap.size w w1 := by rw [← h1]; exact (Below.refl _ w).alloc (Nat.le_refl _) _
 generalize h2 : w1.alloc (.cells #[.string a] 9) = w2
 have e2 : w2.heap.size = w.heap.size + 1 + 1 := by rw [← h2, World.size_alloc, e1]
 have a4 : Blk w2 (w.heap.size + 1) 9 #[.string a] := by rw [← h2, ← e1]; exact Blk.new w1 _ _
 have a3 : Blk w2 w.heap.size 23 #[.pointer (some ⟨bt, 0, none⟩)] := by rw [← h2]; exact a3.alloc _
 have b2 : Below w.heap.size w w2 := by rw [← h2]; exact b1.alloc b1.size _
 generalize h3 : w2.alloc (.cells #[.string b] 9) = w3
 have e3 : w3.heap.size = w.heap.size + 1 + 1 + 1 := by rw [← h3, World.size_alloc, e2]
 have a5 : Blk w3 (w.heap.size + 1 + 1) 9 #[.string b] := by rw [← h3, ← e2]; exact Blk.new w2 _ _
 have a3 : Blk w3 w.heap.size 23 #[.pointer (some ⟨bt, 0, none⟩)] := by rw [← h3]; exact a3.alloc _
 have a4 : Blk w3 (w.heap.size + 1) 9 #[.string a] := by rw [← h3]; exact a4.alloc _
 have b3 : Below w.heap.size w w3 := by rw [← h3]; exact b2.alloc b2.size _
 generalize h4 : w3.alloc (.cells #[.slice none 0 0] 32) = w4
 have e4 : w4.heap.size = w.heap.size + 1 + 1 + 1 + 1 := by rw [← h4, World.size_alloc, e3]
 have a6 : Blk w4 (w.heap.size + 1 + 1 + 1) 32 #[.slice none 0 0] := by rw [← h4, ← e3]; exact Blk.new w3 _ _
 have a3 : Blk w4 w.heap.size 23 #[.pointer (some ⟨bt, 0, none⟩)] := by rw [← h4]; exact a3.alloc _
 have a4 : Blk w4 (w.heap.size + 1) 9 #[.string a] := by rw [← h4]; exact a4.alloc _
 have a5 : Blk w4 (w.heap.size + 1 + 1) 9 #[.string b] := by rw [← h4]; exact a5.alloc _
 have b4 : Below w.heap.size w w4 := by rw [← h4]; exact b3.alloc b3.size _
 generalize h5 : w4.alloc (.cells #[.int .i64 0] 29) = w5
 have e5 : w5.heap.size = w.heap.size + 1 + 1 + 1 + 1 + 1 := by rw [← h5, World.size_alloc, e4]
 have a7 : Blk w5 (w.heap.size + 1 + 1 + 1 + 1) 29 #[.int .i64 0] := by rw [← h5, ← e4]; exact Blk.new w4 _ _
 have b5 : Below w.heap.size w w5 := by rw [← h5]; exact b4.alloc b4.size _
 have k5 : Below w4.heap.size w4 w5 := by rw [← h5]; exact (Below.refl _ _).alloc (Nat.le_refl _) _
 have a8 : Blk (w5.alloc (.cells #[.slice none 0 0] 32)) (w.heap.size + 1 + 1 + 1 + 1 + 1) 32 #[.slice none 0 0] := by rw [← e5]; exact Blk.new w5 _ _
 exact ⟨(a3.below k5 a3.lt).alloc _, (a4.below k5 a4.lt).alloc _, (a5.below k5 a5.lt).alloc _, (a6.below k5 a6.lt).alloc _, a7.alloc _, a8, Kd.R_nil _ _ _ _ _, b5.alloc b5.size _⟩
theorem infoRow : (Try.prog.info? 28).map (fun i => (i.zero, i.size, i.bytes)) = some (some (.agg #[.string ⟨#[]⟩, .int .u64 0, .int .i64 0, .string ⟨#[]⟩]), 4, 48) := by kernel_rfl
end Go.Proofs.Ytaigmemmgjlhgaa.Tab
-- TabT
namespace Go.Proofs.Ytaigmemmgjlhgaa.Tab
open Go.RowKit Aid Txt Print PLink Block Bits Go.Proofs.YtaigmemmgjlhgaaW.PrintWords
def filt (l : List S28) (Q : Int) : List UInt8 := Bloom.filter Q.toNat (keysB l l.length)
def tab (l : List S28) (B R Q : Int) : List UInt8 × Nat := PTable.table (l.map rowS) B R Q (filt l Q)
def tabT (l : List S28) (B R Q : Int) : PTable.Tab := ⟨(tab l B R Q).1, filt l Q, PTable.partsW R 0 (PTable.chunks (l.map rowS) B R)⟩
theorem keysB_length (l : List S28) : (keysB l l.length).length ≤ l.length := by
 unfold keysB
 rw [List.length_map]
 exact PTable.keysTo_length _ _
theorem filt_length (l : List S28) (Q : Int) (hl : l.length ≤ 400) (hQ : Q ≤ 32) : (filt l Q).length ≤ 1601 := by
 unfold filt
 rw [Bloom.filter_length]
 have h1 := keysB_length l
 have := Bloom.width_hi (keysB l l.length).length Q.toNat (by omega) (by omega)
 omega
structure Built (l : List S28) (B R Q : Int) : Prop where
 rt : PTable.right (l.map rowS) B R Q = 0
 idx : (PBlock.build (PTable.index R (PTable.chunks (l.map rowS) B R)) 1).2 = 0
 len : (PTable.whole R (PTable.chunks (l.map rowS) B R) (filt l Q)).length ≤ 262144
 txt : (tab l B R Q).1 = PTable.whole R (PTable.chunks (l.map rowS) B R) (filt l Q)
 few : l.length ≤ 400
theorem built_of {l : List S28} {B R Q : Int} (hl : l.length ≤ 400) (h : (tab l B R Q).2 = 0) : Built l B R Q := by
 have hr : PTable.right (l.map rowS) B R Q = 0 := by
  unfold tab PTable.table at h
  split at h
  ·exact h
  ·rename_i hn
   exact Classical.byContradiction hn
 have hb : ¬ ((PBlock.build (PTable.index R (PTable.chunks (l.map rowS) B R)) 1).2 ≠ 0 ∨ 262144 < (PTable.whole R (PTable.chunks (l.map rowS) B R) (filt l Q)).length) := by
  intro hb
  unfold tab at h
  rw [q1x hr hb] at h
  cases h
 refine ⟨hr, Classical.byContradiction fun e => hb (.inl e), Nat.le_of_not_lt fun e => hb (.inr e), ?_, hl⟩
 unfold tab PTable.table
 rw [if_neg (by rw [hr]; simp), if_neg hb]
section
variable {l : List S28} {B R Q : Int}
theorem Built.chunk (h : Built l B R Q) : ∀ c ∈ PTable.chunks (l.map rowS) B R, PTable.Chunk R c := by
 obtain ⟨_, _, h1, h2, _, _, _, hc⟩ := right_zero h.rt
 exact PTable.chunks_ok B R h1 h2 hc
theorem Built.ok (h : Built l B R Q) : (tab l B R Q).2 = 0 := by
 have hx := h.txt
 have hl := h.len
 have hi := h.idx
 unfold tab PTable.table
 rw [if_neg (by rw [h.rt]; simp), if_neg (by rintro (h | h); exact h hi; omega)]
theorem Built.order (h : Built l B R Q) : PBlock.order (PTable.chunks (l.map rowS) B R).flatten = true := by
 rw [PTable.chunks_flat]
 exact (right_zero h.rt).2.2.2.2.2.2.1
theorem Built.open_ (h : Built l B R Q) : PTable.open_ chkB (tab l B R Q).1 = some (tabT l B R Q) := by
 obtain ⟨_, _, _, _, q1, q2, _, _⟩ := right_zero h.rt
 have h1 := keysB_length l
 have h2 := h.few
 have hf := filt_length l Q h.few (by omega)
 have hk : chkB (filt l Q) = true := by
  unfold chkB filt
  rw [Bloom.chk_filter _ _ (by omega) (by omega)]
  rfl
 unfold tabT
 rw [h.txt]
 exact PTable.open_whole chkB R _ _ hk (by omega) h.idx h.len h.chunk
theorem Built.shows (h : Built l B R Q) : PTable.Shows (fun p c => PTable.readT (tab l B R Q).1 p = some c) (tabT l B R Q).parts (PTable.chunks (l.map rowS) B R) := by
 rw [h.txt]
 exact PTable.shows_table R _ _ h.chunk
theorem Built.has (h : Built l B R Q) : ∀ r ∈ l.map rowS, hasB (filt l Q) r.key = true := by
 obtain ⟨_, _, _, _, q1, q2, _, _⟩ := right_zero h.rt
 intro r hr
 unfold hasB filt
 refine Bloom.has_filter _ _ (by omega) _ ?_
 unfold keysB
 refine List.mem_map.2 ⟨r.key, ?_, rfl⟩
 have := PTable.keys_mem hr
 unfold PTable.keys at this
 rwa [List.length_map] at this
theorem Built.get (h : Built l B R Q) (key : List UInt8) (n : Nat) : PTable.get hasB (tabT l B R Q) key n = ((PTable.hv (l.map rowS) key n).1, (PTable.hv (l.map rowS) key n).2, 0) := by
 have hf := PTable.chunks_flat (l.map rowS) B R
 have := PTable.get_hv hasB (tab l B R Q).1 (filt l Q) (tabT l B R Q).parts _ h.shows h.order (by rw [hf]; exact h.has) key n
 rw [hf] at this
 exact this
theorem Built.size (h : Built l B R Q) : (tab l B R Q).1.length ≤ 262144 := by rw [h.txt]; exact h.len
theorem lies_parts (n R : _) (cs : List (List PBlock.Row)) (hc : ∀ c ∈ cs, PTable.Chunk R c) (hn : (PTable.bodyOf R cs).length ≤ n) : ∀ p ∈ PTable.partsW R 0 cs, Lies n p := fun p hp => by
 obtain ⟨h1, h2, h3, h4⟩ := PTable.partsW_bounds R cs 0 n hc (by omega) p hp
 exact ⟨h1, h2, h3, h4⟩
theorem Built.lies (h : Built l B R Q) : ∀ p ∈ (tabT l B R Q).parts, Lies (tab l B R Q).1.length p := by
 refine lies_parts _ R _ h.chunk ?_
 rw [h.txt]
 exact whole_ge _ _ _
theorem q1i (B R : Int) (k : Nat) : ∀ l : List PBlock.Row, (PTable.chunksAt B R k l).length ≤ k := by
 induction k with
 | zero => intro l; exact Nat.le_refl _
 | succ k ih =>
  intro l
  rw [PTable.chunksAt]
  split
  ·exact Nat.zero_le _
  ·rw [List.length_cons]; have := ih (l.drop (PTable.cut l B R)); omega
theorem Built.parts_few (h : Built l B R Q) : (tabT l B R Q).parts.length ≤ 400 := by
 unfold tabT
 rw [PTable.partsW_length]
 have h1 := q1i B R (l.map rowS).length (l.map rowS)
 have h2 := h.few
 rw [List.length_map] at h1
 unfold PTable.chunks
 rw [List.length_map]
 omega
theorem Built.rows (h : Built l B R Q) : rowsIn ((tabT l B R Q).parts.map partB) = (l.length : Int) := by
 have h1 := PTable.shows_rows h.shows
 rw [PTable.chunks_flat, List.length_map] at h1
 rw [← h1]
 unfold rowsIn
 generalize (tabT l B R Q).parts = ps
 clear h1
 induction ps with
 | nil => rfl
 | cons p ps ih =>
  rw [List.map_cons, List.map_cons, List.sum_cons, List.map_cons, List.sum_cons, ih]
  push_cast
  rfl
theorem Built.parts_rows (h : Built l B R Q) : ∀ p ∈ (tabT l B R Q).parts.map partB, 0 ≤ p.f3 ∧ p.f3 ≤ 1024 := by
 intro p hp
 obtain ⟨x, hx, rfl⟩ := List.mem_map.1 hp
 have h1 := (h.lies x hx).rows
 show 0 ≤ (x.rows : Int) ∧ (x.rows : Int) ≤ 1024
 omega
theorem Built.first (h : Built l B R Q) : ((((tabT l B R Q).parts.map partB).head?.map fun p => p.f0).getD ⟨#[]⟩) = Txt.B ((l.map rowS).headD PTable.zeroRow).key := by
 have h1 := PTable.shows_first h.shows
 rw [PTable.chunks_flat] at h1
 rw [← h1]
 generalize (tabT l B R Q).parts = ps
 cases ps <;> rfl
theorem Built.last (h : Built l B R Q) : ((((tabT l B R Q).parts.map partB).getLast?.map fun p => p.f1).getD ⟨#[]⟩) = Txt.B ((l.map rowS).getLastD PTable.zeroRow).key := by
 have h1 := PTable.shows_last h.shows
 rw [PTable.chunks_flat] at h1
 rw [← h1]
 generalize (tabT l B R Q).parts = ps
 rw [List.getLast?_map]
 cases ps.getLast? <;> rfl
end
def Lain (w : World) (b : Nat) (l : List S28) (B R Q : Int) : Prop := ∃ A c, At w b (Txt.B (tab l B R Q).1) (Txt.B (filt l Q)) A c ((tabT l B R Q).parts.map partB)
section
variable {w w' : World} {b : Nat} {l : List S28} {B R Q : Int}
theorem Lain.below (h : Lain w b l B R Q) (hb : Below w.heap.size w w') : Lain w' b l B R Q := by
 obtain ⟨A, c, h⟩ := h
 exact ⟨A, c, h.below hb⟩
theorem Lain.lt (h : Lain w b l B R Q) : b < w.heap.size := by
 obtain ⟨A, c, h⟩ := h
 exact h.blk.lt
theorem build_tab (hl : ∀ x ∈ l, Fit x) (hs : l.length ≤ 1000) (A0 : Option Addr) (c0 : Nat) (hc0 : l.length ≤ c0) (w : World) (hr0 : Kd.C k28 w A0 l.length l) :
  Calls Try.prog 16 #[.slice A0 l.length c0, .agg #[.int .i64 B, .int .i64 R, .int .i64 Q]] w fun e w' => e = .returned (.tuple #[.string (Txt.B (tab l B R Q).1), .int .i64 ((tab l B R Q).2 : Nat)]) ∧ Below w.heap.size w w' :=
 build_any l hl hs A0 c0 hc0 B R Q w hr0
theorem open_tab (hB : Built l B R Q) (w : World) :
  Calls Try.prog 17 #[.string (Txt.B (tab l B R Q).1)] w fun e w' => ∃ b, e = .returned (.tuple #[.pointer (some ⟨b, 0, none⟩), .int .i64 0]) ∧ Lain w' b l B R Q ∧ w.heap.size ≤ b ∧ Below w.heap.size w w' := by
 have h := open_any (Txt.B (tab l B R Q).1) w (by rw [q0n]; have := hB.size; omega)
 rw [L_B, hB.open_] at h
 refine h.mono ?_
 rintro e w' ⟨⟨b, A, c, rfl, h1, h2⟩, h3⟩
 exact ⟨b, rfl, ⟨A, c, h1⟩, h2, h3⟩
theorem Len_tab (hB : Built l B R Q) (h : Lain w b l B R Q) : Calls Try.prog 11 #[.pointer (some ⟨b, 0, none⟩)] w fun e w' => e = .returned (.int .i64 (l.length : Int)) ∧ Below w.heap.size w w' := by
 obtain ⟨A, c, h⟩ := h
 have h1 := Len_any h hB.parts_rows (by rw [List.length_map]; have := hB.parts_few; omega)
 rw [hB.rows] at h1
 exact h1
theorem First_tab (hB : Built l B R Q) (h : Lain w b l B R Q) : Calls Try.prog 12 #[.pointer (some ⟨b, 0, none⟩)] w fun e w' => e = .returned (.string (Txt.B ((l.map rowS).headD PTable.zeroRow).key)) ∧ Below w.heap.size w w' := by
 obtain ⟨A, c, h⟩ := h
 have h1 := First_any h
 rw [hB.first] at h1
 exact h1
theorem Last_tab (hB : Built l B R Q) (h : Lain w b l B R Q) : Calls Try.prog 13 #[.pointer (some ⟨b, 0, none⟩)] w fun e w' => e = .returned (.string (Txt.B ((l.map rowS).getLastD PTable.zeroRow).key)) ∧ Below w.heap.size w w' := by
 obtain ⟨A, c, h⟩ := h
 have h1 := Last_any h (by rw [List.length_map]; have := hB.parts_few; omega)
 rw [hB.last] at h1
 exact h1
end
theorem Get_miss {w : World} {bt : Nat} {s f : ByteArray} {A : Option Addr} {c : Nat} {pts : List PTable.Part} (h : At w bt s f A c (pts.map partB)) (key : ByteArray) (hk : key.size ≤ 9223372036854775807) (n : Nat) (hh : hasB (L f) (L key) = false) :
  Calls Try.prog 9 #[.pointer (some ⟨bt, 0, none⟩), .string key, .int .u64 n] w fun e w' => e = .returned (getV (PTable.get hasB ⟨L s, L f, pts⟩ (L key) n)) ∧ Below w.heap.size w w' := by
 have hB := Bloom.has_any f key hk
 rw [show Bloom.has f key = false by have := hh; unfold hasB at this; rwa [B_L, B_L] at this] at hB
 have HB := Lib.hid hB
 have HA := Lib.hid h
 have hg : PTable.get hasB ⟨L s, L f, pts⟩ (L key) n = (PTable.zeroRow, false, 0) := by
  unfold PTable.get
  rw [if_pos hh]
 rw [hg]
 clear hB h hg
 go_enter Try.func9, Try.ntmps9
 go_wp2_with fail
 have g0 := GB.new w bt key n
 generalize (((((w.alloc _).alloc _).alloc _).alloc _).alloc _).alloc _ = W1 at g0 ⊢
 have hA1 := HA.out.below_of g0.low
 refine (hA1.open_).mono ?_
 rintro e w' ⟨rfl, rfl⟩
 have c3 := (g0.x3.cell 0).trans rfl
 have c4 := (g0.x4.cell 0).trans rfl
 have cf := (hA1.blk.cell 1).trans rfl
 have lt := hA1.blk.lt
 go_wp2_with fail
 go_region_held3 (fun w' => w'.cell? ⟨w.heap.size, 0, none⟩ = some (.pointer (some ⟨bt, 0, none⟩)) ∧ w'.cell? ⟨w.heap.size + 1, 0, none⟩ = some (.string key) ∧ w'.cell? ⟨bt, 1, none⟩ = some (.string f)) (exact ⟨c3, c4, cf⟩) (first | (((with_reducible refine (HB.out _).mono ?_); rintro e w2 ⟨rfl, hb2⟩; have c3 := (hb2.cell (World.block_lt_of_cell? W1 _ c3)).trans c3; have c4 := (hb2.cell (World.block_lt_of_cell? W1 _ c4)).trans c4; have cf := (hb2.cell (World.block_lt_of_cell? W1 _ cf)).trans cf)))
 have hb := q0d (Below.refl W1.heap.size W1).drew hb2
 have gb := g0.below hb
 have GB2 := Lib.hid (gb.write ⟨⟨#[]⟩, 0, 0, ⟨#[]⟩⟩ false 0)
 have q0 := (gb.x6.cell 0).trans rfl
 have q1 := (gb.x6.cell 1).trans rfl
 have q2 := (gb.x6.cell 2).trans rfl
 have q3 := (gb.x6.cell 3).trans rfl
 have q4 := (gb.x7.cell 0).trans rfl
 have q5 := (gb.x8.cell 0).trans rfl
 have f0 := gb.x6.frozen 0
 have f1 := gb.x6.frozen 1
 have f2 := gb.x6.frozen 2
 have f3 := gb.x6.frozen 3
 have f4 := gb.x7.frozen 0
 have f5 := gb.x8.frozen 0
 have l6 := gb.x6.lt
 have l7 := gb.x7.lt
 have l8 := gb.x8.lt
 go_wp2_with fail
 clear q0 q1 q2 q3 q4 q5 f0 f1 f2 f3 f4 f5 gb
 change bodyPost _ _ _ _ _ (wrote w w2 ⟨⟨#[]⟩, 0, 0, ⟨#[]⟩⟩ false 0)
 have gb2 := GB2.out
 generalize wrote w w2 ⟨⟨#[]⟩, 0, 0, ⟨#[]⟩⟩ false 0 = W9 at gb2 ⊢
 have q0 := (gb2.x6.cell 0).trans rfl
 have q1 := (gb2.x6.cell 1).trans rfl
 have q2 := (gb2.x6.cell 2).trans rfl
 have q3 := (gb2.x6.cell 3).trans rfl
 have q4 := (gb2.x7.cell 0).trans rfl
 have q5 := (gb2.x8.cell 0).trans rfl
 refine ⟨rfl, getV (PTable.zeroRow, false, 0), ?_, rfl, gb2.low⟩
 simp [results, Try.results9, go_sem, q0, q1, q2, q3, q4, q5, getV, rowB, PTable.zeroRow]
section
variable {w w' : World} {b : Nat} {l : List S28} {B R Q : Int}
def getR (l : List S28) (key : ByteArray) (n : Nat) : Value := getV ((PTable.hv (l.map rowS) (L key) n).1, (PTable.hv (l.map rowS) (L key) n).2, 0)
theorem Get_tab (hB : Built l B R Q) (h : Lain w b l B R Q) (key : ByteArray) (hk : key.size ≤ 9223372036854775807) (n : Nat) : Calls Try.prog 9 #[.pointer (some ⟨b, 0, none⟩), .string key, .int .u64 n] w fun e w' => e = .returned (getR l key n) ∧ Below w.heap.size w w' := by
 obtain ⟨A, c, h⟩ := h
 have hg := hB.get (L key) n
 unfold getR
 rw [← hg]
 have hs : (Txt.B (tab l B R Q).1).size ≤ 262144 := by rw [q0n]; exact hB.size
 have hL : ∀ p ∈ (tabT l B R Q).parts, Lies (Txt.B (tab l B R Q).1).size p := by rw [q0n]; exact hB.lies
 cases hh : hasB (filt l Q) (L key) with
 | true => exact Get_any h hs hL (by have := hB.parts_few; omega) key hk n hh
 | false => exact Get_miss h key hk n hh
end
end Go.Proofs.Ytaigmemmgjlhgaa.Tab
-- TabU
namespace Go.Proofs.Ytaigmemmgjlhgaa.Tab
open Go.RowKit Aid Txt Print PLink Block Bits Go.Proofs.YtaigmemmgjlhgaaW.PrintWords
theorem put_le {p : List UInt8} (h : p.length ≤ 65536) : (PFrame.put p).1.length ≤ p.length + 14 := by
 have := PCode.putUint_length_ten (n := p.length) (by omega)
 rw [PFrame.put_ok h]
 unfold PCode.putField
 rw [List.length_append, List.length_append, PFrame.seal_length]
 omega
def rowL : List S28 := [(⟨(⟨#[97]⟩ : ByteArray), 1, 1, (⟨#[120]⟩ : ByteArray)⟩ : S28)]
theorem rowL_map : rowL.map rowS = [row1] := rfl
theorem rowL_fit : ∀ x ∈ rowL, Fit x := by
 intro x hx
 rw [List.mem_singleton.1 hx]
 exact ⟨by show (0 : Int) ≤ 1; omega, by show (1 : Int) < 18446744073709551616; omega⟩
theorem index1 : (PBlock.build (PTable.index 16 [[row1]]) 1).2 = 0 := by
 have hc : PBlock.check (PTable.entry 0 [row1]) = 0 := by
  have h1 := PCode.putUint_length_ten (n := 1) (by omega)
  have h0 := PCode.putUint_length_ten (n := 0) (by omega)
  have hv : (PTable.entry 0 [row1]).value.length ≤ 2048 := by
   unfold PTable.entry PCode.putField
   simp only [List.length_append]
   simp [row1]
   omega
  unfold PBlock.check
  rw [if_neg (by rintro (h | h | h | h | h) <;> simp [PTable.entry, row1] at h), if_neg]
  rintro (h | h)
  ·simp [PTable.entry, row1] at h
  ·omega
 exact one_ok (l := [PTable.entry 0 [row1]]) (by intro r hr; rw [List.mem_singleton.1 hr]; exact hc) 1 (by omega) (by omega)
theorem tab1 : (tab rowL 64 16 10).2 = 0 := by
 have hi := index1
 have h1 := build1 16 (by omega) (by omega)
 have hf := filt_length rowL 10 (by decide) (by omega)
 have l1 := (PBlock.build_ok (l := PTable.index 16 [[row1]]) (s := (PBlock.build (PTable.index 16 [[row1]]) 1).1) (Prod.ext rfl hi)).2.2.2.2.2.2
 have l2 := (PBlock.build_ok (l := [row1]) (s := (PBlock.build [row1] 16).1) (Prod.ext rfl h1)).2.2.2.2.2.2
 have hw : (PTable.whole 16 [[row1]] (filt rowL 10)).length ≤ 262144 := by
  unfold PTable.whole
  simp only [List.length_append, PTable.foot_length]
  have e1 := put_le (p := filt rowL 10) (by omega)
  have e2 := put_le l1
  have e3 := put_le l2
  have e4 : (PTable.bodyOf 16 [[row1]]).length = (PFrame.put (PBlock.build [row1] 16).1).1.length := by
   rw [PTable.bodyOf_cons]
   rfl
  omega
 unfold tab PTable.table
 rw [rowL_map, right1, if_neg (by simp), chunks1, hi, if_neg]
 rintro (h | h)
 ·exact h rfl
 ·omega
theorem built1 : Built rowL 64 16 10 := built_of (by decide) tab1
theorem lit1 (w : World) : Kd.C k28 (w.alloc (.cells #[.string ⟨#[97]⟩, .int .u64 1, .int .i64 1, .string ⟨#[120]⟩] 28)) (some ⟨w.heap.size, 0, none⟩) rowL.length rowL := by
 have h : Kd.R k28 28 (w.alloc (.cells #[.string ⟨#[97]⟩, .int .u64 1, .int .i64 1, .string ⟨#[120]⟩] 28)) w.heap.size (fun _ => True) (.slice (some ⟨w.heap.size, 0, none⟩) 1 1) rowL := by
  refine ⟨fun _ _ => trivial, [.string ⟨#[97]⟩, .int .u64 1, .int .i64 1, .string ⟨#[120]⟩], ?_, ?_⟩
  ·exact World.ownsRow_lit (base := w.heap.size) (e := 28) (size := 4) w #[.string ⟨#[97]⟩, .int .u64 1, .int .i64 1, .string ⟨#[120]⟩] 1 (Nat.le_refl _) (by decide) rfl
  ·exact Reps.snoc (Reps.none _ _) (k28_mkM _ _ _ _) rfl
 exact (Kd.R_reads' h).2.2
theorem open_nil : PTable.open_ chkB [] = none := by
 unfold PTable.open_
 rw [if_pos (by simp)]
theorem get1 : getR rowL ⟨#[97]⟩ 5 = .tuple #[.agg #[.string ⟨#[97]⟩, .int .u64 1, .int .i64 1, .string ⟨#[120]⟩], .bool true, .int .i64 0] := by
 unfold getR
 rw [rowL_map, show L (⟨#[97]⟩ : ByteArray) = [97] from rfl, show PTable.hv [row1] [97] 5 = (row1, true) by simp [PTable.hv, row1]]
 rfl
set_option maxRecDepth 100000 in
set_option maxHeartbeats 4000000 in
theorem awake_any (w : World) : Calls Try.prog 15 #[] w fun e w' => e = .returned (.bool true) ∧ Below w.heap.size w w' := by
 have hl := lit1 w
 have PB := build_tab (B := 64) (R := 16) (Q := 10) rowL_fit (by decide) (some ⟨w.heap.size, 0, none⟩) 1 (by decide) _ hl
 rw [tab1] at PB
 have PB := Lib.hid PB
 have PO := Lib.hid (fun w' => open_tab built1 w')
 have PN := Lib.hid (fun w' => open_any (⟨#[]⟩ : ByteArray) w' (by decide))
 clear hl
 generalize Txt.B (tab rowL 64 16 10).1 = S at PB PO
 go_enter Try.func15, Try.ntmps15
 go_wp2_with fail
 refine (PB.out).mono ?_
 rintro e w1 ⟨rfl, hb1⟩
 have hB := q0d ((Below.refl w.heap.size w).alloc (Nat.le_refl _) _) hb1
 clear hb1
 go_wp2_with fail
 refine (PO.out _).mono ?_
 rintro e w2 ⟨b, rfl, hL, hbl, hb2⟩
 have hB := q0d hB hb2
 clear hb2
 have PG := Lib.hid (Get_tab built1 hL ⟨#[97]⟩ (by decide) 5)
 rw [get1] at PG
 go_wp2_with fail
 refine (PG.out).mono ?_
 rintro e w3 ⟨rfl, hb3⟩
 have hB := q0d hB hb3
 have hL := hL.below hb3
 clear hb3 PG
 have hb4 := (Below.refl w3.heap.size w3).alloc (Nat.le_refl _) (.cells #[.string ⟨#[97]⟩, .int .u64 1, .int .i64 1, .string ⟨#[120]⟩] 28)
 have BR := Blk.new w3 28 #[.string ⟨#[97]⟩, .int .u64 1, .int .i64 1, .string ⟨#[120]⟩]
 have hB := q0d hB hb4
 have hL := hL.below hb4
 clear hb4
 go_wp2_with fail
 refine (PN.out _).mono ?_
 rintro e w4 ⟨ho, hb5⟩
 rw [show L (⟨#[]⟩ : ByteArray) = [] from rfl, open_nil] at ho
 obtain rfl : e = .returned (.tuple #[.pointer none, .int .i64 10]) := ho
 have hB := q0d hB hb5
 have hL := hL.below hb5
 have BR := BR.below hb5 BR.lt
 have d3 := (BR.cell 3).trans rfl
 clear hb5
 have PL := Lib.hid (fun w' (h : Lain w' b rowL 64 16 10) => Len_tab built1 h)
 have PF := Lib.hid (fun w' (h : Lain w' b rowL 64 16 10) => First_tab built1 h)
 have PA := Lib.hid (fun w' (h : Lain w' b rowL 64 16 10) => Last_tab built1 h)
 rw [rowL_map] at PF PA
 rw [show Txt.B ((([row1] : List PBlock.Row).headD PTable.zeroRow).key) = (⟨#[97]⟩ : ByteArray) from rfl] at PF
 rw [show Txt.B ((([row1] : List PBlock.Row).getLastD PTable.zeroRow).key) = (⟨#[97]⟩ : ByteArray) from rfl] at PA
 go_wp2_with (first | (refine (PL.out _ hL).mono ?_; rintro e w5 ⟨rfl, hb6⟩; have hB := q0d hB hb6; have hL := hL.below hb6; clear hb6) | (refine (PF.out _ hL).mono ?_; rintro e w5 ⟨rfl, hb6⟩; have hB := q0d hB hb6; have hL := hL.below hb6; clear hb6) | (refine (PA.out _ hL).mono ?_; rintro e w5 ⟨rfl, hb6⟩; have hB := q0d hB hb6; have hL := hL.below hb6; clear hb6))
 go_ret
 exact ⟨rfl, hB⟩
end Go.Proofs.Ytaigmemmgjlhgaa.Tab
-- TabK
namespace Go.Proofs.Ytaigmemmgjlhgaa.Tab
open Go.RowKit Aid Txt Print PLink Block Bits Go.Proofs.YtaigmemmgjlhgaaW.PrintWords
theorem same_ev (l : List S28) (hl : l.length ≤ 9223372036854775806) (d : Nat) : ∀ i : Nat, l.length - i ≤ d → Ev (fun k => freshetref06_SameRows.l0 k l l (i : Int)) true := by
 induction d with
 | zero =>
  intro i hi
  refine Ev.step (f := fun _ => some true) (fun k => ?_) (Ev.now _)
  simp only [freshetref06_SameRows.l0]
  rw [if_neg (by omega)]
 | succ d ih =>
  intro i hi
  by_cases h : i < l.length
  ·refine Ev.step (fun k => ?_) (ih (i + 1) (by omega))
   simp only [freshetref06_SameRows.l0]
   rw [if_pos (by omega), if_pos (by omega), if_pos (by omega), if_neg (by simp), q0u (by omega) (by omega)]
   rfl
  ·refine Ev.step (f := fun _ => some true) (fun k => ?_) (Ev.now _)
   simp only [freshetref06_SameRows.l0]
   rw [if_neg (by omega)]
theorem same_any (l : List S28) (hl : l.length ≤ 9223372036854775806) (A0 : Option Addr) (c0 : Nat) (A1 : Option Addr) (c1 : Nat) (w : World) (hr0 : Kd.C k28 w A0 l.length l) (hc0 : l.length ≤ c0) (hr1 : Kd.C k28 w A1 l.length l) (hc1 : l.length ≤ c1) :
  Calls Try.prog 18 #[.slice A0 l.length c0, .slice A1 l.length c1] w fun e w' => e = .returned (.bool true) ∧ q0k w w' := by
 obtain ⟨k, hk⟩ := (same_ev l hl _ 0 (Nat.le_refl _)).rounds
 refine freshetref06_SameRows.calls k A0 c0 l A1 c1 l true w hr0 hc0 hr1 hc1 ?_
 unfold freshetref06_SameRows.f
 rw [if_pos rfl]
 exact hk
theorem Lain.drew {w : World} {b : Nat} {l : List S28} {B R Q : Int} (h : Lain w b l B R Q) : Lain w.drew b l B R Q := h.below (Below.refl _ _).drew
theorem Lain.drewN {w : World} {b : Nat} {l : List S28} {B R Q : Int} (h : Lain w b l B R Q) (n : Nat) : Lain (w.drewN n) b l B R Q := h.below (q0z (Below.refl _ _) n)
end Go.Proofs.Ytaigmemmgjlhgaa.Tab
-- TabRa
namespace Go.Proofs.Ytaigmemmgjlhgaa.Tab
open Go.RowKit Aid Txt Print PLink Block Bits Go.Proofs.YtaigmemmgjlhgaaW.PrintWords
attribute [local go_sem] Oper.semAt_some
set_option maxRecDepth 100000 in
set_option maxHeartbeats 4000000 in
theorem rAhead_any (r : S28) (hr : Fit r) (key : ByteArray) (q : Int) (q0 : 0 ≤ q) (w : World) :
  Calls Try.prog 84 #[.agg #[.string r.f0, .int .u64 r.f1, .int .i64 r.f2, .string r.f3], .string key, .int .u64 q] w fun e w' => e = .returned (.bool (PBlock.ahead (rowS r) (L key) q.toNat)) ∧ Below w.heap.size w w' := by
 have hb := (Below.refl w.heap.size w).alloc (Nat.le_refl _) (.cells #[.string r.f0, .int .u64 r.f1, .int .i64 r.f2, .string r.f3] 28)
 have h0 := hr.s0
 have ha : PBlock.ahead (rowS r) (L key) q.toNat = (Op.bytesLess r.f0.toList key.toList || (r.f0.toList == key.toList && decide (q < r.f1))) := by
  unfold PBlock.ahead
  rw [Print.L_toList, Print.L_toList]
  congr 2
  exact decide_eq_decide.2 (by show q.toNat < r.f1.toNat ↔ _; omega)
 rw [ha]
 clear ha
 cases h1 : Op.bytesLess r.f0.toList key.toList with
 | true =>
  go_enter Try.func84, Try.ntmps84
  go_wp2_with fail
  go_ret
  exact ⟨rfl, hb⟩
 | false =>
  cases h2 : (r.f0.toList == key.toList) with
  | true =>
   cases h3 : decide (q < r.f1)
   all_goals
    go_enter Try.func84, Try.ntmps84
    go_wp2_with fail
    go_ret
    exact ⟨rfl, hb⟩
  | false =>
   go_enter Try.func84, Try.ntmps84
   go_wp2_with fail
   go_ret
   exact ⟨rfl, hb⟩
theorem order_snoc (l : List S28) (i : Nat) (h : i + 1 < l.length) : PBlock.order ((l.take (i + 2)).map rowS) = (PBlock.order ((l.take (i + 1)).map rowS) && PBlock.ahead (rowS l[i]) (rowS l[i + 1]).key (rowS l[i + 1]).seq) := by
 induction l generalizing i with
 | nil => simp at h
 | cons a l ih =>
  cases l with
  | nil => simp at h
  | cons b l =>
   cases i with
   | zero => simp [PBlock.order]
   | succ i =>
    have := ih i (by simpa using h)
    rw [List.take_succ_cons, List.take_succ_cons, List.map_cons, List.map_cons, List.take_succ_cons, List.take_succ_cons, List.map_cons, List.map_cons, PBlock.order, PBlock.order]
    rw [List.take_succ_cons, List.take_succ_cons, List.map_cons, List.map_cons] at this
    rw [this, Bool.and_assoc]
    rfl
set_option maxRecDepth 100000 in
set_option maxHeartbeats 4000000 in
theorem rOrder_any (l : List S28) (hl : ∀ x ∈ l, Fit x) (hs : l.length ≤ 1000000) (A0 : Option Addr) (c0 : Nat) (hc0 : l.length ≤ c0) (w : World) (hr0 : Kd.C k28 w A0 l.length l) :
  Calls Try.prog 69 #[.slice A0 l.length c0] w fun e w' => e = .returned (.bool (PBlock.order (l.map rowS))) ∧ Below w.heap.size w w' := by
 have HR := Lib.hid hr0
 have HL := Lib.hid hl
 clear hr0 hl
 go_enter Try.func69, Try.ntmps69
 go_wp2_with fail
 go_loopw [3] (fun v3 wr => ∃ i : Nat, i ≤ l.length ∧ v3 = .int .i64 ((i + 1 : Nat) : Int) ∧ Below w.heap.size w wr ∧ PBlock.order ((l.take (i + 1)).map rowS) = true) (fun v3 _ => l.length + 1 - (intOf v3).toNat)
 case atStart =>
  refine ⟨0, by omega, rfl, Below.refl _ _, ?_⟩
  cases l with
  | nil => rfl
  | cons a l => rfl
 case round =>
  obtain ⟨i, hi, rfl, hB, hord⟩ := hrel
  have HO := Lib.hid hord
  clear hord
  obtain ⟨k, hk⟩ : ∃ k, i + 1 = k := ⟨_, rfl⟩
  rw [hk]
  by_cases hlt : k < l.length
  ·have t1 : ((k : Int) < (l.length : Int)) = True := eq_true (by omega)
   have hC := Kd.C_below HR.out hB
   obtain ⟨ad, rfl, k0, k1, k2, k3⟩ := q15 hC (i : Int) (by omega) (by omega)
   obtain ⟨ad', ea, j0, j1, _, _⟩ := q15 hC (k : Int) (by omega) (by omega)
   injection ea with ea
   subst ea
   have hsn := order_snoc l i (by omega)
   rw [q1h l i (by omega), Int.toNat_natCast] at k0 k1 k2 k3
   rw [q1h l k hlt, Int.toNat_natCast] at j0 j1
   rw [HO.out, Bool.true_and] at hsn
   simp only [hk] at hsn
   have hf1 := HL.out l[i] (List.getElem_mem (by omega))
   have hf2 := HL.out l[k] (List.getElem_mem hlt)
   have e1 : i + 2 = k + 1 := by omega
   rw [e1] at hsn
   generalize l[i] = x at k0 k1 k2 k3 hsn hf1
   generalize l[k] = y at j0 j1 hsn hf2
   have PA := Lib.hid (fun w' => rAhead_any x hf1 y.f0 y.f1 hf2.s0 w')
   rw [show PBlock.ahead (rowS x) (L y.f0) y.f1.toNat = PBlock.ahead (rowS x) (rowS y).key (rowS y).seq from rfl, ← hsn] at PA
   obtain ⟨bb, hbb⟩ : ∃ bb, PBlock.order ((l.take (k + 1)).map rowS) = bb := ⟨_, rfl⟩
   rw [hbb] at PA
   have HBB := Lib.hid hbb
   have HB := Lib.hid hB
   have hw : IntKind.i64.wrap ((k : Int) - 1) = (i : Int) := by rw [show (k : Int) - 1 = (i : Int) by omega]; exact IntWalk.i64_in _ (by omega)
   have z0 : (0 : Int) ≤ (i : Int) := by omega
   have z1 : (i : Int) < (l.length : Int) := by omega
   have z2 : (k : Int) < (l.length : Int) := by omega
   have z3 : (0 : Int) ≤ (k : Int) := by omega
   have HK := Lib.hid hk
   clear hk hsn hbb hB hf1 hf2 hC e1
   go_wp2_with fail
   go_still_tail 15, (by kernel_rfl)
   change wpList _ _ _ _ _ wr.drew
   have hB2 := HB.out.drew
   clear HB k0 k1 k2 k3 j0 j1
   generalize wr.drew = w2 at hB2 ⊢
   go_wp2_with fail
   refine (PA.out _).mono ?_
   rintro e w3 ⟨rfl, hb3⟩
   have hB3 := q0d hB2 hb3
   cases bb with
   | true =>
    go_wp2_with fail
    go_roundw
    case rel => exact ⟨i + 1, by have := HK.out; omega, congrArg (Value.int .i64) (by have := HK.out; omega), hB3, by have := HK.out; rw [show i + 1 + 1 = k + 1 by omega]; exact HBB.out⟩
    case measure => have := HK.out; simp only [intOf]; omega
   | false =>
    have hno : PBlock.order (l.map rowS) = false := by
     cases hx : PBlock.order (l.map rowS) with
     | false => rfl
     | true =>
      have := PBlock.order_take hx (k + 1)
      rw [← List.map_take, HBB.out] at this
      cases this
    have HNO := Lib.hid hno
    clear hno
    go_wp2_with fail
    go_ret
    exact ⟨by rw [HNO.out]; rfl, hB3⟩
  ·have t1 : ((k : Int) < (l.length : Int)) = False := eq_false (by omega)
   have hall : PBlock.order (l.map rowS) = true := by
    have := HO.out
    rwa [List.take_of_length_le (by omega)] at this
   have HA := Lib.hid hall
   clear hall
   go_wp2_with fail
   go_ret
   exact ⟨by rw [HA.out]; rfl, hB⟩
theorem check_bool (r : S28) (hr : Fit r) : ((PBlock.check (rowS r) : Nat) : Int) = if ((!(r.f2 == 1)) && (!(r.f2 == 2))) || ((r.f0.size : Int) == 0) || ((r.f2 == 2) && decide ((0 : Int) < r.f3.size)) || (r.f1 == 0) || decide ((72057594037927935 : Int) < r.f1) then 2 else if decide ((520 : Int) < r.f0.size) || decide ((2048 : Int) < r.f3.size) then 3 else 0 := by
 have h0 := hr.s0
 have e0 : (rowS r).key = [] ↔ r.f0.size = 0 := by rw [show (rowS r).key = L r.f0 from rfl, ← List.length_eq_zero_iff, q0g]
 have e3 : (rowS r).value ≠ [] ↔ 0 < r.f3.size := by rw [show (rowS r).value = L r.f3 from rfl, Ne, ← List.length_eq_zero_iff, q0g]; omega
 have e1 : (rowS r).seq = r.f1.toNat := rfl
 have e2 : (rowS r).kind = r.f2 := rfl
 have e4 : (rowS r).key.length = r.f0.size := q0g _
 have e5 : (rowS r).value.length = r.f3.size := q0g _
 unfold PBlock.check
 by_cases c : ((rowS r).kind ≠ 1 ∧ (rowS r).kind ≠ 2) ∨ (rowS r).key = [] ∨ ((rowS r).kind = 2 ∧ (rowS r).value ≠ []) ∨ (rowS r).seq = 0 ∨ 72057594037927935 < (rowS r).seq
 ·rw [if_pos c]
  rw [e0, e3, e1, e2] at c
  rw [if_pos]
  ·rfl
  ·simp only [Bool.or_eq_true, Bool.and_eq_true, Bool.not_eq_true', beq_eq_false_iff_ne, beq_iff_eq, decide_eq_true_eq]
   omega
 ·rw [if_neg c]
  rw [e0, e3, e1, e2] at c
  rw [if_neg (c := (_ || decide ((72057594037927935 : Int) < r.f1)) = true)]
  ·by_cases c2 : 520 < (rowS r).key.length ∨ 2048 < (rowS r).value.length
   ·rw [if_pos c2]
    rw [e4, e5] at c2
    rw [if_pos]
    ·rfl
    ·simp only [Bool.or_eq_true, decide_eq_true_eq]
     omega
   ·rw [if_neg c2]
    rw [e4, e5] at c2
    rw [if_neg]
    ·rfl
    ·simp only [Bool.or_eq_true, decide_eq_true_eq]
     omega
  ·simp only [Bool.or_eq_true, Bool.and_eq_true, Bool.not_eq_true', beq_eq_false_iff_ne, beq_iff_eq, decide_eq_true_eq]
   omega
set_option maxRecDepth 100000 in
set_option maxHeartbeats 4000000 in
theorem rCheck_any (r : S28) (hr : Fit r) (w : World) :
  Calls Try.prog 70 #[.agg #[.string r.f0, .int .u64 r.f1, .int .i64 r.f2, .string r.f3]] w fun e w' => e = .returned (.int .i64 ((PBlock.check (rowS r) : Nat) : Int)) ∧ Below w.heap.size w w' := by
 have hb := (Below.refl w.heap.size w).alloc (Nat.le_refl _) (.cells #[.string r.f0, .int .u64 r.f1, .int .i64 r.f2, .string r.f3] 28)
 have hz := check_bool r hr
 generalize ((PBlock.check (rowS r) : Nat) : Int) = z at hz ⊢
 have HC := Lib.hid hb
 clear hb hr
 obtain ⟨k, q, kd, v⟩ := r
 dsimp only at HC hz ⊢
 have HZ := Lib.hid hz
 clear hz
 by_cases c1 : kd = 1 ∨ kd = 2
 ·rcases c1 with rfl | rfl
  all_goals
   cases t3 : ((k.size : Int) == 0)
   ·by_cases c4 : v.size = 0
    ·obtain rfl : v = ⟨#[]⟩ := ByteArray.ext (Array.eq_empty_of_size_eq_zero c4)
     clear c4
     by_cases c5 : q = 0
     ·subst c5
      go_enter Try.func70, Try.ntmps70
      go_wp2_with fail
      go_ret
      exact ⟨by first | (rw [HZ.out]; rfl) | (have hz := HZ.out; simp [*] at hz; subst hz; rfl), HC.out⟩
     ·have t5 : (q == 0) = false := beq_false_of_ne c5
      clear c5
      cases t6 : decide ((72057594037927935 : Int) < q)
      ·cases t7 : decide ((520 : Int) < k.size)
       all_goals
        go_enter Try.func70, Try.ntmps70
        go_wp2_with fail
        go_ret
        exact ⟨by first | (rw [HZ.out]; rfl) | (have hz := HZ.out; simp [*] at hz; subst hz; rfl), HC.out⟩
      ·go_enter Try.func70, Try.ntmps70
       go_wp2_with fail
       go_ret
       exact ⟨by first | (rw [HZ.out]; rfl) | (have hz := HZ.out; simp [*] at hz; subst hz; rfl), HC.out⟩
    ·have t4 : decide ((0 : Int) < v.size) = true := decide_eq_true (by omega)
     have t4n : (0 < v.size) = True := eq_true (by omega)
     clear c4
     by_cases c5 : q = 0
     ·subst c5
      go_enter Try.func70, Try.ntmps70
      go_wp2_with fail
      go_ret
      exact ⟨by first | (rw [HZ.out]; rfl) | (have hz := HZ.out; simp [*] at hz; subst hz; rfl), HC.out⟩
     ·have t5 : (q == 0) = false := beq_false_of_ne c5
      clear c5
      cases t6 : decide ((72057594037927935 : Int) < q)
      ·cases t7 : decide ((520 : Int) < k.size) <;> cases t8 : decide ((2048 : Int) < v.size)
       all_goals
        go_enter Try.func70, Try.ntmps70
        go_wp2_with fail
        go_ret
        exact ⟨by first | (rw [HZ.out]; rfl) | (have hz := HZ.out; simp [*] at hz; subst hz; rfl), HC.out⟩
      ·go_enter Try.func70, Try.ntmps70
       go_wp2_with fail
       go_ret
       exact ⟨by first | (rw [HZ.out]; rfl) | (have hz := HZ.out; simp [*] at hz; subst hz; rfl), HC.out⟩
   ·go_enter Try.func70, Try.ntmps70
    go_wp2_with fail
    go_ret
    exact ⟨by first | (rw [HZ.out]; rfl) | (have hz := HZ.out; simp [*] at hz; subst hz; rfl), HC.out⟩
 ·have t1 : (kd == 1) = false := beq_false_of_ne (fun h => c1 (.inl h))
  have t2 : (kd == 2) = false := beq_false_of_ne (fun h => c1 (.inr h))
  have t3 : (kd != 1) = true := bne_iff_ne.2 (fun h => c1 (.inl h))
  have t4 : (kd != 2) = true := bne_iff_ne.2 (fun h => c1 (.inr h))
  have t5 : (kd = 1) = False := eq_false (fun h => c1 (.inl h))
  have t6 : (kd = 2) = False := eq_false (fun h => c1 (.inr h))
  clear c1
  go_enter Try.func70, Try.ntmps70
  go_wp2_with fail
  go_ret
  exact ⟨by first | (rw [HZ.out]; rfl) | (have hz := HZ.out; simp [*] at hz; subst hz; rfl), HC.out⟩
end Go.Proofs.Ytaigmemmgjlhgaa.Tab
-- TabRc
namespace Go.Proofs.Ytaigmemmgjlhgaa.Tab
open Go.RowKit Aid Txt Print PLink Block Bits Go.Proofs.YtaigmemmgjlhgaaW.PrintWords
theorem last_at (l : List S28) (m : Nat) (h : m < l.length) : PBlock.lastOf [] ((l.take (m + 1)).map rowS) = L (l[m]).f0 := by
 rw [List.take_succ_eq_append_getElem h, List.map_append, List.map_cons, List.map_nil, PBlock.lastOf_snoc]
 rfl
set_option maxRecDepth 100000 in
set_option maxHeartbeats 8000000 in
theorem rBuild_any (l : List S28) (hl : ∀ x ∈ l, Fit x) (hc : ∀ x ∈ l, PBlock.check (rowS x) = 0) (hs : l.length ≤ 1000) (A0 : Option Addr) (c0 : Nat) (hc0 : l.length ≤ c0) (R : Nat) (hR1 : 1 ≤ R) (hR2 : R ≤ 64) (w : World) (hr0 : Kd.C k28 w A0 l.length l) :
  Calls Try.prog 46 #[.slice A0 l.length c0, .int .i64 R] w fun e w' => e = .returned (.tuple #[.string (B (PBlock.build (l.map rowS) R).1), .int .i64 ((PBlock.build (l.map rowS) R).2 : Nat)]) ∧ Below w.heap.size w w' := by
 have HL := Lib.hid hl
 have HR := Lib.hid hr0
 have HC := Lib.hid hc
 clear hl hr0 hc
 have ta : decide ((R : Int) < 1) = false := decide_eq_false (by omega)
 have tb : decide ((64 : Int) < (R : Int)) = false := decide_eq_false (by omega)
 have tc : decide ((1024 : Int) < (l.length : Int)) = false := decide_eq_false (by omega)
 have PO := Lib.hid (rOrder_any l HL.out (by omega) A0 c0 hc0 w HR.out)
 cases ho : PBlock.order (l.map rowS) with
 | false =>
  rw [ho] at PO
  rw [q1z (.inr (.inr (.inl ho)))]
  go_enter Try.func46, Try.ntmps46
  go_wp2_with fail
  refine (PO.out).mono ?_
  rintro e w1 ⟨rfl, hb1⟩
  go_wp2_with fail
  go_ret2
  exact ⟨rfl, hb1⟩
 | true =>
  rw [ho] at PO
  have hno : ¬ ∃ r ∈ l.map rowS, PBlock.check r = 2 := by
   rintro ⟨r, hr, h2⟩
   obtain ⟨x, hx, rfl⟩ := List.mem_map.1 hr
   rw [HC.out x hx] at h2
   omega
  have HG := Lib.hid (show ¬ ((R : Int) < 1 ∨ 64 < (R : Int) ∨ PBlock.order (l.map rowS) = false ∨ ∃ r ∈ l.map rowS, PBlock.check r = 2) by
   rintro (h | h | h | h) <;> first | omega | exact hno h | (rw [ho] at h; cases h))
  clear hno
  have HO := Lib.hid ho
  clear ho
  go_enter Try.func46, Try.ntmps46
  go_wp2_with fail
  refine (PO.out).mono ?_
  rintro e w1 ⟨rfl, hb1⟩
  go_wp2_with fail
  go_loopw [6, 7] (fun v6 v7 wr => ∃ i : Nat, i ≤ l.length ∧ v6 = .bool false ∧ v7 = .int .i64 i ∧ Below w.heap.size w wr) (fun _ v7 _ => l.length - (intOf v7).toNat)
  case atStart => exact ⟨0, by omega, rfl, rfl, hb1⟩
  case round =>
   obtain ⟨i, hi, rfl, rfl, hB⟩ := hrel
   by_cases hlt : i < l.length
   ·have t1 : ((i : Int) < (l.length : Int)) = True := eq_true (by omega)
    obtain ⟨ad, rfl, k0, k1, k2, k3⟩ := q15 (Kd.C_below HR.out hB) (i : Int) (by omega) (by omega)
    rw [q1h l i hlt, Int.toNat_natCast] at k0 k1 k2 k3
    have PC := Lib.hid (fun w' => rCheck_any l[i] (HL.out _ (List.getElem_mem _)) w')
    rw [HC.out l[i] (List.getElem_mem _)] at PC
    go_wp2_with fail
    refine (PC.out _).mono ?_
    rintro e w2 ⟨rfl, hb2⟩
    have hB2 := q0d hB hb2
    clear k0 k1 k2 k3 hb2
    go_wp2_with fail
    go_roundw
    case rel => exact ⟨i + 1, by omega, rfl, by go_num, hB2⟩
    case measure => simp [intOf]; omega
   ·have t1 : ((i : Int) < (l.length : Int)) = False := eq_false (by omega)
    clear hi
    go_wp2_with fail
    clear PO hb1
    go_loopw [9, 10, 11] (fun v9 v10 v11 wr => ∃ i : Nat, i ≤ l.length ∧ v9 = .string (B (PBlock.enc R 0 [] ((l.take i).map rowS))) ∧ v10 = .string (B (PBlock.fours (PBlock.ends R 0 0 [] ((l.take i).map rowS)))) ∧ v11 = .int .i64 i ∧ (PBlock.enc R 0 [] ((l.take i).map rowS)).length ≤ 65536 ∧ Below w.heap.size w wr) (fun _ _ v11 _ => l.length - (intOf v11).toNat)
    case atStart => exact ⟨0, by omega, rfl, rfl, rfl, by simp [PBlock.enc], hB⟩
    case round =>
     clear hB
     obtain ⟨i, hi, rfl, rfl, rfl, henc, hB⟩ := hrel
     by_cases hlt2 : i < l.length
     ·have t2 : ((i : Int) < (l.length : Int)) = True := eq_true (by omega)
      have hCr := Kd.C_below HR.out hB
      obtain ⟨ad, rfl, k0, k1, k2, k3⟩ := q15 hCr (i : Int) (by omega) (by omega)
      rw [q1h l i hlt2, Int.toNat_natCast] at k0 k1 k2 k3
      have hs1 : (l.take (i + 1)).map rowS = (l.take i).map rowS ++ [rowS l[i]] := by rw [List.take_succ_eq_append_getElem hlt2, List.map_append, List.map_cons, List.map_nil]
      have hlen : ((l.take i).map rowS).length = i := by rw [List.length_map, List.length_take]; omega
      have hX := PBlock.enc_snoc R ((l.take i).map rowS) (rowS l[i]) 0 []
      have hE := PBlock.ends_snoc R ((l.take i).map rowS) (rowS l[i]) 0 0 []
      rw [hlen, Nat.zero_add, ← hs1] at hX hE
      have hck := HC.out l[i] (List.getElem_mem _)
      have hbd := PBlock.check_ok hck
      have hf := HL.out l[i] (List.getElem_mem _)
      have hkl : (l[i]).f0.size ≤ 520 := by rw [← q0g]; exact hbd.2.2.2.2.2.1
      have hvl : (l[i]).f3.size ≤ 2048 := by rw [← q0g]; exact hbd.2.2.2.2.2.2
      have hel := PBlock.ends_length_le R ((l.take i).map rowS) 0 0 []
      rw [hlen] at hel
      have hfar : 65536 < (PBlock.enc R 0 [] ((l.take (i + 1)).map rowS)).length → PBlock.build (l.map rowS) (R : Int) = ([], 3) := fun h => PBlock.build_far HG.out (n := i + 1) (by rw [Int.toNat_natCast, ← List.map_take]; exact h)
      have HF := Lib.hid hfar
      clear hfar hbd hs1 hlen
      obtain ⟨X', eX⟩ : ∃ X', PBlock.enc R 0 [] ((l.take (i + 1)).map rowS) = X' := ⟨_, rfl⟩
      obtain ⟨E', eE⟩ : ∃ E', PBlock.ends R 0 0 [] ((l.take (i + 1)).map rowS) = E' := ⟨_, rfl⟩
      rw [eX] at hX HF
      rw [eE] at hE
      have HEX := Lib.hid eX
      have HEE := Lib.hid eE
      clear eX eE
      have hR0 : ((R : Int) = 0) = False := eq_false (by omega)
      have hR1' : (R = 0) = False := eq_false (by omega)
      have htm : (i : Int).tmod (R : Int) = (i : Int) % (R : Int) := Int.tmod_eq_emod_of_nonneg (by omega)
      have htw : IntKind.i64.wrap ((i : Int) % (R : Int)) = (i : Int) % (R : Int) := by rw [show ((i : Int) % (R : Int)) = ((i % R : Nat) : Int) from rfl]; exact IntWalk.i64_in _ (by have := Nat.mod_lt i (show 0 < R by omega); omega)
      by_cases hz : i % R = 0
      ·rw [if_pos hz] at hX hE
       have hrl := PBlock.rowEnc_le (rowS l[i]) [] hck
       have t3 : ((i : Int) % (R : Int) == 0) = true := by rw [show ((i : Int) % (R : Int)) = ((i % R : Nat) : Int) from rfl, hz]; rfl
       have PR := fun w' => rRow_any (l[i]).f0 (l[i]).f3 ⟨#[]⟩ (l[i]).f1 (l[i]).f2 hf.s0 hf.s1 hkl hvl (by show 0 ≤ 520; omega) w'
       rw [show PBlock.rowEnc ⟨L (l[i]).f0, (l[i]).f1.toNat, (l[i]).f2, L (l[i]).f3⟩ (L ⟨#[]⟩) = PBlock.rowEnc (rowS l[i]) [] from rfl] at PR
       generalize PBlock.rowEnc (rowS l[i]) [] = rr at PR hX hrl
       generalize PBlock.enc R 0 [] ((l.take i).map rowS) = X at hX hE henc ⊢
       generalize PBlock.ends R 0 0 [] ((l.take i).map rowS) = E at hE hel ⊢
       have P4 := fun w' => rFour_any X.length (by omega) w'
       have e1 : (B (PBlock.fours E)).size = 4 * E.length := by rw [q0n, PBlock.fours_length]
       have e2 : (B (PBlock.four X.length)).size = 4 := by rw [q0n]; rfl
       have e3 := q0n X
       have e4 := q0n rr
       have hXl : X'.length = X.length + rr.length := by rw [hX, List.length_append]
       have HCX := Lib.hid (show B X ++ B rr = B X' from L_inj (by rw [hX, q0t, L_B, L_B, L_B]))
       have HCE := Lib.hid (show B (PBlock.fours E) ++ B (PBlock.four X.length) = B (PBlock.fours E') from L_inj (by rw [hE, PBlock.fours_append, q0t, L_B, L_B, L_B, Nat.zero_add]; simp [PBlock.fours]))
       clear hX hE hck
       generalize B (PBlock.fours E) = te at e1 HCE ⊢
       generalize B (PBlock.four X.length) = tf at P4 e2 HCE
       generalize B X = tx at e3 HCX ⊢
       generalize B rr = tr at PR e4 HCX
       have e5 : tx.size + tr.size = X'.length := by omega
       have c1 : (9223372036854775807 < te.size + tf.size) = False := eq_false (by omega)
       have c2 : (9223372036854775807 < X'.length) = False := eq_false (by omega)
       have c3 : (9223372036854775807 < X.length + rr.length) = False := eq_false (by omega)
       have P4 := Lib.hid P4
       have PR := Lib.hid PR
       have hX2 := hXl.symm
       clear e1 e2 hXl henc hel hrl hkl hvl hf
       generalize l[i] = x at k0 k1 k2 k3 PR
       obtain ⟨x0, x1, x2, x3⟩ := x
       dsimp only at k0 k1 k2 k3 PR
       go_wp2_with fail
       refine (P4.out _).mono ?_
       rintro e w4 ⟨rfl, hb4⟩
       have hB4 := q0d hB hb4
       have k0 := (hb4.cell (World.block_lt_of_cell? wr _ k0)).trans k0
       have k1 := (hb4.cell (World.block_lt_of_cell? wr _ k1)).trans k1
       have k2 := (hb4.cell (World.block_lt_of_cell? wr _ k2)).trans k2
       have k3 := (hb4.cell (World.block_lt_of_cell? wr _ k3)).trans k3
       clear hb4
       go_wp2_with fail
       refine (PR.out _).mono ?_
       rintro e w5 ⟨rfl, hb5⟩
       have hB5 := q0d hB4 hb5
       clear PR hb5
       by_cases hbg : 65536 < X'.length
       ·have t7 : decide ((65536 : Int) < (X'.length : Int)) = true := decide_eq_true (by omega)
        have HF2 := Lib.hid (HF.out hbg)
        clear hbg
        go_wp2_with fail
        go_ret2
        rw [HF2.out]
        exact ⟨rfl, hB5⟩
       ·have t7 : decide ((65536 : Int) < (X'.length : Int)) = false := decide_eq_false (by omega)
        have HG2 := Lib.hid hbg
        clear hbg
        go_wp2_with fail
        go_roundw
        case rel => exact ⟨i + 1, by omega, by rw [HEX.out, ← HCX.out], by rw [HEE.out, ← HCE.out], by go_num, by rw [HEX.out]; have := HG2.out; omega, hB5⟩
        case measure => simp [intOf]; omega
      ·rw [if_neg hz] at hX hE
       rw [List.append_nil] at hE
       have t3 : ((i : Int) % (R : Int) == 0) = false := by rw [show ((i : Int) % (R : Int)) = ((i % R : Nat) : Int) from rfl]; exact beq_false_of_ne (by omega)
       obtain ⟨m, hm⟩ : ∃ m, m + 1 = i := ⟨i - 1, by have : i ≠ 0 := (fun h => hz (by rw [h]; exact Nat.zero_mod R)); omega⟩
       obtain ⟨ad', ea, j0, _, _, _⟩ := q15 hCr (m : Int) (by omega) (by omega)
       injection ea with ea
       subst ea
       have hmlt : m < l.length := by omega
       rw [q1h l m hmlt, Int.toNat_natCast] at j0
       have hla := last_at l m hmlt
       rw [hm] at hla
       have hll : (l[m]).f0.size ≤ 520 := by rw [← q0g]; exact (PBlock.check_ok (HC.out l[m] (List.getElem_mem _))).2.2.2.2.2.1
       rw [hla] at hX
       have hrl := PBlock.rowEnc_le (rowS l[i]) (L (l[m]).f0) hck
       have PR := fun w' => rRow_any (l[i]).f0 (l[i]).f3 (l[m]).f0 (l[i]).f1 (l[i]).f2 hf.s0 hf.s1 hkl hvl hll w'
       rw [show PBlock.rowEnc ⟨L (l[i]).f0, (l[i]).f1.toNat, (l[i]).f2, L (l[i]).f3⟩ (L (l[m]).f0) = PBlock.rowEnc (rowS l[i]) (L (l[m]).f0) from rfl] at PR
       generalize PBlock.rowEnc (rowS l[i]) (L (l[m]).f0) = rr at PR hX hrl
       generalize PBlock.enc R 0 [] ((l.take i).map rowS) = X at hX hE henc ⊢
       generalize PBlock.ends R 0 0 [] ((l.take i).map rowS) = E at hE hel ⊢
       subst hE
       have e3 := q0n X
       have e4 := q0n rr
       have hXl : X'.length = X.length + rr.length := by rw [hX, List.length_append]
       have HCX := Lib.hid (show B X ++ B rr = B X' from L_inj (by rw [hX, q0t, L_B, L_B, L_B]))
       clear hX hck
       obtain ⟨te, hte⟩ : ∃ te, B (PBlock.fours E') = te := ⟨_, rfl⟩
       rw [hte]
       have HTE := Lib.hid hte
       clear hte
       generalize B X = tx at e3 HCX ⊢
       generalize B rr = tr at PR e4 HCX
       have e5 : tx.size + tr.size = X'.length := by omega
       have c2 : (9223372036854775807 < X'.length) = False := eq_false (by omega)
       have c3 : (9223372036854775807 < X.length + rr.length) = False := eq_false (by omega)
       have PR := Lib.hid PR
       have hX2 := hXl.symm
       have w1 : IntKind.i64.wrap ((i : Int) - 1) = (m : Int) := by rw [show (i : Int) - 1 = (m : Int) by omega]; exact IntWalk.i64_in _ (by omega)
       have y1 : (0 : Int) ≤ (m : Int) := by omega
       have y2 : (m : Int) < (l.length : Int) := by omega
       have HM := Lib.hid hm
       clear hXl henc hel hrl hkl hvl hf hla hll hm
       generalize l[i] = x at k0 k1 k2 k3 PR
       generalize l[m] = y at j0 PR
       obtain ⟨x0, x1, x2, x3⟩ := x
       obtain ⟨y0, y1, y2, y3⟩ := y
       dsimp only at k0 k1 k2 k3 j0 PR
       go_wp2_with fail
       refine (PR.out _).mono ?_
       rintro e w5 ⟨rfl, hb5⟩
       have hB5 := q0d hB hb5
       clear PR hb5
       by_cases hbg : 65536 < X'.length
       ·have t7 : decide ((65536 : Int) < (X'.length : Int)) = true := decide_eq_true (by omega)
        have HF2 := Lib.hid (HF.out hbg)
        clear hbg
        go_wp2_with fail
        go_ret2
        rw [HF2.out]
        exact ⟨rfl, hB5⟩
       ·have t7 : decide ((65536 : Int) < (X'.length : Int)) = false := decide_eq_false (by omega)
        have HG2 := Lib.hid hbg
        clear hbg
        go_wp2_with fail
        go_roundw
        case rel => exact ⟨i + 1, by omega, by rw [HEX.out, ← HCX.out], by rw [HEE.out, HTE.out], by go_num, by rw [HEX.out]; have := HG2.out; omega, hB5⟩
        case measure => simp [intOf]; omega
     ·have t2 : ((i : Int) < (l.length : Int)) = False := eq_false (by omega)
      obtain rfl : i = l.length := by omega
      have hel := PBlock.ends_length_le R (l.map rowS) 0 0 []
      rw [List.take_length] at henc ⊢
      rw [List.length_map] at hel
      have hbw : PBlock.build (l.map rowS) (R : Int) = if 65536 < (PBlock.whole (l.map rowS) R).length then ([], 3) else (PBlock.whole (l.map rowS) R, 0) := by
       by_cases hw : 65536 < (PBlock.whole (l.map rowS) R).length
       ·rw [if_pos hw]; exact build_three HG.out (.inr (.inr (by rw [Int.toNat_natCast]; exact hw)))
       ·rw [if_neg hw]; exact PBlock.build_of (by omega) (by omega) HO.out (fun r hr => by obtain ⟨x, hx, rfl⟩ := List.mem_map.1 hr; exact HC.out x hx) (by rw [List.length_map]; omega) (by rw [Int.toNat_natCast]; omega)
      have hwl := PBlock.whole_length (l.map rowS) R
      have hcat : B (PBlock.enc R 0 [] (l.map rowS)) ++ B (PBlock.fours (PBlock.ends R 0 0 [] (l.map rowS))) ++ B (PBlock.four (PBlock.ends R 0 0 [] (l.map rowS)).length) ++ B (PBlock.four R) = B (PBlock.whole (l.map rowS) R) := by
       apply L_inj
       simp only [q0t, L_B]
       rfl
      generalize PBlock.whole (l.map rowS) R = Wh at hbw hwl hcat
      generalize PBlock.ends R 0 0 [] (l.map rowS) = E at hel hwl hcat ⊢
      generalize PBlock.enc R 0 [] (l.map rowS) = X at henc hwl hcat ⊢
      have P4 := Lib.hid (fun w' => rFour_any E.length (by omega) w')
      have P5 := Lib.hid (fun w' => rFour_any R (by omega) w')
      have z0 := q0n X
      have z1 : (B (PBlock.fours E)).size = 4 * E.length := by rw [q0n, PBlock.fours_length]
      have z2 : (B (PBlock.four E.length)).size = 4 := by rw [q0n]; rfl
      have z3 : (B (PBlock.four R)).size = 4 := by rw [q0n]; rfl
      have zw := q0n Wh
      have HB := Lib.hid hbw
      have HCT := Lib.hid hcat
      clear hbw hcat
      generalize B (PBlock.four R) = tg at P5 z3 HCT
      generalize B (PBlock.four E.length) = tf at P4 z2 HCT
      generalize B (PBlock.fours E) = te at z1 HCT ⊢
      generalize B X = tx at z0 HCT ⊢
      have hq4 : ((te.size : Int)).tdiv 4 = (E.length : Int) := by rw [z1, Int.tdiv_eq_ediv_of_nonneg (by omega)]; omega
      have hwr : IntKind.i64.wrap (E.length : Int) = (E.length : Int) := IntWalk.i64_in _ (by omega)
      obtain ⟨s1, h1⟩ : ∃ s, tx.size + te.size = s := ⟨_, rfl⟩
      obtain ⟨s2, h2⟩ : ∃ s, s1 + tf.size = s := ⟨_, rfl⟩
      have h3 : s2 + tg.size = Wh.length := by omega
      have c1 : (9223372036854775807 < s1) = False := eq_false (by omega)
      have c2 : (9223372036854775807 < s2) = False := eq_false (by omega)
      have c3 : (9223372036854775807 < Wh.length) = False := eq_false (by omega)
      clear henc hel z0 z1 z2 z3 hwl hi hlt2
      go_wp2_with fail
      refine (P4.out _).mono ?_
      rintro e w4 ⟨rfl, hb4⟩
      go_wp2_with fail
      refine (P5.out _).mono ?_
      rintro e w5 ⟨rfl, hb5⟩
      have hB5 := q0d (q0d hB hb4) hb5
      clear hb4 hb5 P4 P5
      by_cases hfin : 65536 < Wh.length
      ·have t9 : decide ((65536 : Int) < (Wh.length : Int)) = true := decide_eq_true (by omega)
       have HB2 := HB.out
       rw [if_pos hfin] at HB2
       have HB := Lib.hid HB2
       clear HB2 hfin
       go_wp2_with fail
       go_ret2
       rw [HB.out]
       exact ⟨rfl, hB5⟩
      ·have t9 : decide ((65536 : Int) < (Wh.length : Int)) = false := decide_eq_false (by omega)
       have HB2 := HB.out
       rw [if_neg hfin] at HB2
       have HB := Lib.hid HB2
       clear HB2 hfin
       go_wp2_with fail
       go_ret2
       rw [HB.out, ← HCT.out]
       exact ⟨rfl, hB5⟩
end Go.Proofs.Ytaigmemmgjlhgaa.Tab
-- TabRd
namespace Go.Proofs.Ytaigmemmgjlhgaa.Tab
open Go.RowKit Aid Txt Print PLink Block Bits Go.Proofs.YtaigmemmgjlhgaaW.PrintWords
attribute [local go_sem] conv_one
set_option maxRecDepth 100000 in
set_option maxHeartbeats 4000000 in
theorem rLow_any (n k : Nat) (hn : n < 18446744073709551616) (hk : k ≤ 8) (w : World) :
  Calls Try.prog 75 #[.int .u64 n, .int .i64 k] w fun e w' => e = .returned (.string (B (PTable.low n k))) ∧ Below w.heap.size w w' := by
 go_enter Try.func75, Try.ntmps75
 go_wp2_with fail
 go_loopw [0, 5, 6] (fun v0 v5 v6 wr => ∃ i : Nat, i ≤ k ∧ v0 = .int .u64 ((n / 256 ^ i : Nat) : Int) ∧ v5 = .string (B (PTable.low n i)) ∧ v6 = .int .i64 i ∧ Below w.heap.size w wr) (fun _ _ v6 _ => k - (intOf v6).toNat)
 case atStart => exact ⟨0, by omega, by simp, rfl, rfl, Below.refl _ _⟩
 case round =>
  obtain ⟨i, hi, rfl, rfl, rfl, hB⟩ := hrel
  by_cases hlt : i < k
  ·have t1 : ((i : Int) < (k : Int)) = True := eq_true (by omega)
   have hsn := PTable.low_snoc i n
   have hd : n / 256 ^ (i + 1) = n / 256 ^ i / 256 := by rw [Nat.pow_succ, Nat.div_div_eq_div_mul]
   have hq : n / 256 ^ i < 18446744073709551616 := Nat.lt_of_le_of_lt (Nat.div_le_self _ _) hn
   have hl : (B (PTable.low n i)).size = i := by rw [q0n, PTable.low_length]
   generalize n / 256 ^ i = q at hsn hd hq ⊢
   have hcat : B (PTable.low n i) ++ strOfNums [(q : Int) % 256] = B (PTable.low n (i + 1)) := L_inj (by rw [q0t, L_nums, L_B, L_B, hsn]; rfl)
   have HD := Lib.hid hd
   have HC := Lib.hid hcat
   clear hd hsn hcat
   have z1 : (strOfNums [(q : Int) % 256]).size = 1 := rfl
   have c1 : (9223372036854775807 < i + 1) = False := eq_false (by omega)
   have hB2 := hB.alloc hB.size (.cells #[.int .u8 ((q : Int) % 256)] 5)
   generalize B (PTable.low n i) = tx at hl HC ⊢
   go_wp2_with fail
   go_roundw
   case rel => exact ⟨i + 1, by omega, by rw [HD.out]; rfl, by rw [← HC.out], by go_num, hB2⟩
   case measure => simp [intOf]; omega
  ·have t1 : ((i : Int) < (k : Int)) = False := eq_false (by omega)
   obtain rfl : i = k := by omega
   go_wp2_with fail
   go_ret
   exact ⟨rfl, hB⟩
set_option maxRecDepth 100000 in
set_option maxHeartbeats 4000000 in
theorem rFoot_any (f i : Nat) (hf : f < 9223372036854775808) (hi : i < 9223372036854775808) (w : World) :
  Calls Try.prog 51 #[.int .u64 f, .int .u64 i] w fun e w' => e = .returned (.string (B (PTable.foot f i))) ∧ Below w.heap.size w w' := by
 have L1 := Lib.hid (rLow_any f 8 (by omega) (by omega))
 have L2 := Lib.hid (rLow_any i 8 (by omega) (by omega))
 have hz1 : (B (PTable.low f 8)).size = 8 := by rw [q0n, PTable.low_length]
 have hz2 : (B (PTable.low i 8)).size = 8 := by rw [q0n, PTable.low_length]
 obtain ⟨kk, hkk⟩ := (ref_of (B (PTable.low f 8) ++ B (PTable.low i 8)) (by rw [ByteArray.size_append, hz1, hz2]; omega)).rounds
 have S1 := fun w => freshetref01_Of.calls kk (B (PTable.low f 8) ++ B (PTable.low i 8)) _ w hkk
 clear hkk
 have hE : PTable.foot f i = L ((B (PTable.low f 8) ++ B (PTable.low i 8)) ++ B (PTable.low (PCrc.sum 0 (L (B (PTable.low f 8) ++ B (PTable.low i 8)))).toNat 4)) := by
  rw [PTable.low_four, q0t, q0t, L_B, L_B, L_B]
  rfl
 have HE := Lib.hid hE
 clear hE
 have hlt := (PCrc.sum 0 (L (B (PTable.low f 8) ++ B (PTable.low i 8)))).isLt
 generalize hcc : (PCrc.sum 0 (L (B (PTable.low f 8) ++ B (PTable.low i 8)))).toNat = c at HE hlt
 have hI : I (PCrc.sum 0 (L (B (PTable.low f 8) ++ B (PTable.low i 8)))) = (c : Int) := by rw [← hcc]; rfl
 rw [hI] at S1
 have S1 := Lib.hid S1
 clear hcc hI
 have L3 := Lib.hid (rLow_any c 4 (by omega) (by omega))
 have hz3 : (B (PTable.low c 4)).size = 4 := by rw [q0n, PTable.low_length]
 generalize B (PTable.low c 4) = d at L3 HE hz3
 generalize B (PTable.low f 8) = a at L1 S1 HE hz1
 generalize B (PTable.low i 8) = b at L2 S1 HE hz2
 have u3 : IntKind.u64.wrap (c : Int) = (c : Int) := q0o (by omega) (by omega)
 go_enter Try.func51, Try.ntmps51
 go_wp2_with fail
 refine (L1.out _).mono ?_
 rintro e w1 ⟨rfl, hb1⟩
 go_wp2_with fail
 refine (L2.out _).mono ?_
 rintro e w2 ⟨rfl, hb2⟩
 go_wp2_with fail
 refine (S1.out _).mono ?_
 rintro e w3 ⟨rfl, hb3⟩
 go_wp2_with fail
 refine (L3.out _).mono ?_
 rintro e w4 ⟨rfl, hb4⟩
 go_wp2_with fail
 go_ret
 refine ⟨?_, q0d (q0d (q0d hb1 hb2) (q0k.below hb3)) hb4⟩
 show Ending.returned (Value.string _) = _
 rw [HE.out, B_L]
theorem right_two {l : List PBlock.Row} {B R Q : Int} (h : B < 64 ∨ 16384 < B ∨ R < 1 ∨ 64 < R ∨ Q < 1 ∨ 32 < Q ∨ PBlock.order l = false ∨ (∃ r ∈ l, PBlock.check r = 2)) : PTable.right l B R Q = 2 := by
 unfold PTable.right; rw [if_pos h]
theorem right_else {l : List PBlock.Row} {B R Q : Int} (h : ¬ (B < 64 ∨ 16384 < B ∨ R < 1 ∨ 64 < R ∨ Q < 1 ∨ 32 < Q ∨ PBlock.order l = false ∨ (∃ r ∈ l, PBlock.check r = 2))) : PTable.right l B R Q = if ∃ r ∈ l, PBlock.check r = 3 then 3 else 0 := by
 unfold PTable.right; rw [if_neg h]
set_option maxRecDepth 100000 in
set_option maxHeartbeats 8000000 in
theorem rRight_any (l : List S28) (hl : ∀ x ∈ l, Fit x) (hs : l.length ≤ 1000) (A0 : Option Addr) (c0 : Nat) (hc0 : l.length ≤ c0) (B R Q : Int) (w : World) (hr0 : Kd.C k28 w A0 l.length l) :
  Calls Try.prog 45 #[.slice A0 l.length c0, .agg #[.int .i64 B, .int .i64 R, .int .i64 Q]] w fun e w' => e = .returned (.int .i64 ((PTable.right (l.map rowS) B R Q : Nat) : Int)) ∧ Below w.heap.size w w' := by
 have HL := Lib.hid hl
 have hb0 := (Below.refl w.heap.size w).alloc (Nat.le_refl _) (.cells #[.int .i64 B, .int .i64 R, .int .i64 Q] 41)
 have HR := Lib.hid (Kd.C_below hr0 hb0)
 have HB0 := Lib.hid hb0
 have HR0 := Lib.hid hr0
 clear hl hr0 hb0
 by_cases c1 : B < 64
 ·rw [right_two (.inl c1)]
  have t1 : decide (B < 64) = true := decide_eq_true c1
  clear c1
  go_enter Try.func45, Try.ntmps45
  go_wp2_with fail
  go_ret
  exact ⟨rfl, HB0.out⟩
 have t1 : decide (B < 64) = false := decide_eq_false c1
 by_cases c2 : 16384 < B
 ·rw [right_two (.inr (.inl c2))]
  have t2 : decide (16384 < B) = true := decide_eq_true c2
  clear c1 c2
  go_enter Try.func45, Try.ntmps45
  go_wp2_with fail
  go_ret
  exact ⟨rfl, HB0.out⟩
 have t2 : decide (16384 < B) = false := decide_eq_false c2
 by_cases c3 : R < 1
 ·rw [right_two (.inr (.inr (.inl c3)))]
  have t3 : decide (R < 1) = true := decide_eq_true c3
  clear c1 c2 c3
  go_enter Try.func45, Try.ntmps45
  go_wp2_with fail
  go_ret
  exact ⟨rfl, HB0.out⟩
 have t3 : decide (R < 1) = false := decide_eq_false c3
 by_cases c4 : 64 < R
 ·rw [right_two (.inr (.inr (.inr (.inl c4))))]
  have t4 : decide (64 < R) = true := decide_eq_true c4
  clear c1 c2 c3 c4
  go_enter Try.func45, Try.ntmps45
  go_wp2_with fail
  go_ret
  exact ⟨rfl, HB0.out⟩
 have t4 : decide (64 < R) = false := decide_eq_false c4
 by_cases c5 : Q < 1
 ·rw [right_two (.inr (.inr (.inr (.inr (.inl c5)))))]
  have t5 : decide (Q < 1) = true := decide_eq_true c5
  clear c1 c2 c3 c4 c5
  go_enter Try.func45, Try.ntmps45
  go_wp2_with fail
  go_ret
  exact ⟨rfl, HB0.out⟩
 have t5 : decide (Q < 1) = false := decide_eq_false c5
 by_cases c6 : 32 < Q
 ·rw [right_two (.inr (.inr (.inr (.inr (.inr (.inl c6))))))]
  have t6 : decide (32 < Q) = true := decide_eq_true c6
  clear c1 c2 c3 c4 c5 c6
  go_enter Try.func45, Try.ntmps45
  go_wp2_with fail
  go_ret
  exact ⟨rfl, HB0.out⟩
 have t6 : decide (32 < Q) = false := decide_eq_false c6
 have PO := Lib.hid (fun w' hr => rOrder_any l HL.out (by omega) A0 c0 hc0 w' hr)
 have HT := Lib.hid (show (PBlock.order (l.map rowS) = false ∨ (∃ r ∈ l.map rowS, PBlock.check r = 2)) → PTable.right (l.map rowS) B R Q = 2 from fun h => right_two (.inr (.inr (.inr (.inr (.inr (.inr h)))))))
 have HE := Lib.hid (show ¬ (PBlock.order (l.map rowS) = false ∨ (∃ r ∈ l.map rowS, PBlock.check r = 2)) → PTable.right (l.map rowS) B R Q = if ∃ r ∈ l.map rowS, PBlock.check r = 3 then 3 else 0 from fun h => right_else (by rintro (h1 | h1 | h1 | h1 | h1 | h1 | h1) <;> first | omega | exact h h1))
 clear c1 c2 c3 c4 c5 c6
 cases ho : PBlock.order (l.map rowS) with
 | false =>
  rw [ho] at PO
  rw [HT.out (.inl ho)]
  clear HT HE ho
  go_enter Try.func45, Try.ntmps45
  go_wp2_with fail
  refine (PO.out _ HR.out).mono ?_
  rintro e w1 ⟨rfl, hb1⟩
  go_wp2_with fail
  go_ret
  exact ⟨rfl, q0d HB0.out hb1⟩
 | true =>
  rw [ho] at PO
  have HO := Lib.hid ho
  clear ho
  go_enter Try.func45, Try.ntmps45
  go_wp2_with fail
  refine (PO.out _ HR.out).mono ?_
  rintro e w1 ⟨rfl, hb1⟩
  have hB := q0d HB0.out hb1
  clear hb1
  go_wp2_with fail
  go_loopw [5, 6] (fun v5 v6 wr => ∃ (i : Nat) (b : Bool), i ≤ l.length ∧ v5 = .bool b ∧ v6 = .int .i64 i ∧ (∀ x ∈ l.take i, PBlock.check (rowS x) ≠ 2) ∧ (b = true ↔ ∃ x ∈ l.take i, PBlock.check (rowS x) = 3) ∧ Below w.heap.size w wr) (fun _ v6 _ => l.length - (intOf v6).toNat)
  case atStart => exact ⟨0, false, by omega, rfl, rfl, by simp, by simp, hB⟩
  case round =>
   clear hB
   obtain ⟨i, b, hi, rfl, rfl, hall, hb3, hB⟩ := hrel
   by_cases hlt : i < l.length
   ·have t7 : ((i : Int) < (l.length : Int)) = True := eq_true (by omega)
    obtain ⟨ad, rfl, k0, k1, k2, k3⟩ := q15 (Kd.C_below HR0.out hB) (i : Int) (by omega) (by omega)
    rw [q1h l i hlt, Int.toNat_natCast] at k0 k1 k2 k3
    have PC := Lib.hid (fun w' => rCheck_any l[i] (HL.out _ (List.getElem_mem _)) w')
    have htk : ∀ x, x ∈ l.take (i + 1) ↔ x ∈ l.take i ∨ x = l[i] := fun x => by
     rw [List.take_succ_eq_append_getElem hlt, List.mem_append, List.mem_singleton]
    have hmem := List.getElem_mem (l := l) hlt
    have HMEM := Lib.hid hmem
    have HTK := Lib.hid htk
    have HALL := Lib.hid hall
    have HB3 := Lib.hid hb3
    clear htk hall hb3 hmem
    generalize l[i] = x at k0 k1 k2 k3 PC HTK HMEM
    rcases q1l (rowS x) with hc | hc | hc
    ·rw [hc] at PC
     have HC := Lib.hid hc
     clear hc
     go_wp2_with fail
     refine (PC.out _).mono ?_
     rintro e w2 ⟨rfl, hb2⟩
     have hB2 := q0d hB hb2
     clear k0 k1 k2 k3 hb2 PC
     have hall2 : ∀ x ∈ l.take (i + 1), PBlock.check (rowS x) ≠ 2 := fun y hy => by
      rcases (HTK.out y).1 hy with h | rfl
      ·exact HALL.out y h
      ·rw [HC.out]; omega
     have hb4 : b = true ↔ ∃ x ∈ l.take (i + 1), PBlock.check (rowS x) = 3 := by
      rw [HB3.out]
      constructor
      ·rintro ⟨y, hy, h⟩; exact ⟨y, (HTK.out y).2 (.inl hy), h⟩
      ·rintro ⟨y, hy, h⟩
       rcases (HTK.out y).1 hy with h1 | rfl
       ·exact ⟨y, h1, h⟩
       ·rw [HC.out] at h; omega
     have HA2 := Lib.hid hall2
     have HB4 := Lib.hid hb4
     clear hall2 hb4
     cases b
     all_goals
      go_wp2_with fail
      go_roundw
      case rel => exact ⟨i + 1, _, by omega, rfl, by go_num, HA2.out, by simpa using HB4.out, hB2⟩
      case measure => simp [intOf]; omega
    ·rw [hc] at PC
     have HF := Lib.hid (HT.out (.inr ⟨rowS x, List.mem_map_of_mem HMEM.out, hc⟩))
     clear hc
     go_wp2_with fail
     refine (PC.out _).mono ?_
     rintro e w2 ⟨rfl, hb2⟩
     have hB2 := q0d hB hb2
     go_wp2_with fail
     go_ret
     rw [HF.out]
     exact ⟨rfl, hB2⟩
    ·rw [hc] at PC
     have HC := Lib.hid hc
     clear hc
     go_wp2_with fail
     refine (PC.out _).mono ?_
     rintro e w2 ⟨rfl, hb2⟩
     have hB2 := q0d hB hb2
     clear k0 k1 k2 k3 hb2 PC
     have HA2 := Lib.hid (show ∀ x ∈ l.take (i + 1), PBlock.check (rowS x) ≠ 2 from fun y hy => by
      rcases (HTK.out y).1 hy with h | rfl
      ·exact HALL.out y h
      ·rw [HC.out]; omega)
     have HB4 := Lib.hid (show (true : Bool) = (true : Bool) ↔ ∃ x ∈ l.take (i + 1), PBlock.check (rowS x) = 3 from ⟨fun _ => ⟨x, (HTK.out x).2 (.inr rfl), HC.out⟩, fun _ => rfl⟩)
     cases b
     all_goals
      go_wp2_with fail
      go_roundw
      case rel => exact ⟨i + 1, true, by omega, rfl, by go_num, HA2.out, by simpa using HB4.out, hB2⟩
      case measure => simp [intOf]; omega
   ·have t7 : ((i : Int) < (l.length : Int)) = False := eq_false (by omega)
    obtain rfl : i = l.length := by omega
    rw [List.take_length] at hall hb3
    have hno : ¬ (PBlock.order (l.map rowS) = false ∨ ∃ r ∈ l.map rowS, PBlock.check r = 2) := by
     rintro (h | ⟨r, hr, e⟩)
     ·rw [HO.out] at h; cases h
     ·obtain ⟨x, hx, rfl⟩ := List.mem_map.1 hr
      exact hall x hx e
    have hE := HE.out hno
    clear hno hall
    cases b with
    | true =>
     rw [if_pos (by obtain ⟨x, hx, h⟩ := hb3.1 rfl; exact ⟨rowS x, List.mem_map_of_mem hx, h⟩)] at hE
     have HF := Lib.hid hE
     clear hb3 hE
     go_wp2_with fail
     go_ret
     rw [HF.out]
     exact ⟨rfl, hB⟩
    | false =>
     rw [if_neg (by rintro ⟨r, hr, h⟩; obtain ⟨x, hx, rfl⟩ := List.mem_map.1 hr; have := hb3.2 ⟨x, hx, h⟩; cases this)] at hE
     have HF := Lib.hid hE
     clear hb3 hE
     go_wp2_with fail
     go_ret
     rw [HF.out]
     exact ⟨rfl, hB⟩
end Go.Proofs.Ytaigmemmgjlhgaa.Tab
-- TabRe
namespace Go.Proofs.Ytaigmemmgjlhgaa.Tab
open Go.RowKit Aid Txt Print PLink Block Bits Go.Proofs.YtaigmemmgjlhgaaW.PrintWords
theorem low_nums4 (u : BitVec 32) : ([(Int.tmod (I u) 256) % 256, ((Int.tdiv (I u) 256) % 4294967296) % 256, ((Int.tdiv (I u) 65536) % 4294967296) % 256, ((Int.tdiv (I u) 16777216) % 4294967296) % 256] : List Int) = [I u % 256, (I u / 256) % 256, (I u / 65536) % 256, (I u / 16777216) % 256] := by
 have h0 := I_lo u
 have h1 := I_hi u
 rw [Int.tmod_eq_emod_of_nonneg h0, Int.tdiv_eq_ediv_of_nonneg h0, Int.tdiv_eq_ediv_of_nonneg h0, Int.tdiv_eq_ediv_of_nonneg h0]
 generalize I u = x at h0 h1
 have a : x % 256 % 256 = x % 256 := by omega
 have b : x / 256 % 4294967296 % 256 = x / 256 % 256 := by omega
 have c : x / 65536 % 4294967296 % 256 = x / 65536 % 256 := by omega
 have d : x / 16777216 % 4294967296 % 256 = x / 16777216 % 256 := by omega
 rw [a, b, c, d]
theorem rPut_any (s : ByteArray) (h : s.size ≤ 65536) (w : World) : Calls Try.prog 49 #[.string s] w fun e w' => e = .returned (.tuple #[.string (B (PFrame.put (L s)).1), .int .i64 0]) ∧ Below w.heap.size w w' := by
 have h0 : Ev (fun k => freshetref04_Put.f k s) (B (PFrame.put (L s)).1, (0 : Int)) := by
  unfold freshetref04_Put.f
  have hl := q0g s
  rw [PFrame.put_ok (by rw [q0g]; exact h)]
  refine Ev.congr (fun k => if_neg (by omega)) ?_
  rw [q0o (by omega) (by omega)]
  refine Ev.bind (ref_put s.size (by omega)) ?_
  have hf := field_small (L s) (by omega)
  have e : B (PCode.putUint s.size) ++ s = B (PCode.putField (L s)) := by
   rw [B_append, PCode.putField, hl]
  have hz := putUint_fits s.size (by omega)
  refine Ev.congr (fun k => if_pos (by omega)) ?_
  rw [e]
  have hs : Ev (fun k => freshetref04_seal.f k (B (PCode.putField (L s)))) (B (PFrame.mark (L (B (PCode.putField (L s)))))) := by
   unfold freshetref04_seal.f
   refine Ev.bind (ref_of _ (by rw [q0n]; omega)) ?_
   rw [low_nums4, le4_nums]
   exact Ev.now _
  refine Ev.bind hs ?_
  rw [show L (B (PCode.putField (L s))) = PCode.putField (L s) from rfl]
  refine Ev.congr (fun k => if_pos (by rw [q0n, q0n, PFrame.seal_length]; omega)) ?_
  rw [B_append]
  exact Ev.now _
 obtain ⟨k, hk⟩ := h0.rounds
 exact freshetref04_Put.calls k s _ _ w hk
theorem sub_C {w : World} {ad : Addr} {c : Nat} (l : List S28) (h : Kd.C k28 w (some ad) l.length l) (hc : l.length ≤ c) (j n : Nat) (h1 : 1 ≤ n) (h2 : j + n ≤ l.length) : Kd.C k28 w (some (ad.add (j * 4))) n ((l.drop j).take n) := by
 have h3 := Kd.C_mid (lo := j) (hi := j + n) h (by omega) h2 hc
 rw [if_neg (by omega), List.drop_take, show j + n - j = n by omega, List.length_take, List.length_drop, show min n (l.length - j) = n by omega] at h3
 exact h3
theorem rBuild_sub (l : List S28) (hl : ∀ x ∈ l, Fit x) (hc : ∀ x ∈ l, PBlock.check (rowS x) = 0) (hs : l.length ≤ 1000) (ad : Addr) (c0 : Nat) (hc0 : l.length ≤ c0) (R : Nat) (hR1 : 1 ≤ R) (hR2 : R ≤ 64) (j n : Nat) (h1 : 1 ≤ n) (h2 : j + n ≤ l.length) (w : World) (hr0 : Kd.C k28 w (some ad) l.length l) :
  Calls Try.prog 46 #[.slice (some (ad.add (j * 4))) n (c0 - j), .int .i64 R] w fun e w' => e = .returned (.tuple #[.string (B (PBlock.build (((l.drop j).map rowS).take n) R).1), .int .i64 ((PBlock.build (((l.drop j).map rowS).take n) R).2 : Nat)]) ∧ Below w.heap.size w w' := by
 have hlen : ((l.drop j).take n).length = n := by rw [List.length_take, List.length_drop]; omega
 have hm : ∀ x ∈ (l.drop j).take n, x ∈ l := fun x hx => List.mem_of_mem_drop (List.mem_of_mem_take hx)
 have h := rBuild_any ((l.drop j).take n) (fun x hx => hl x (hm x hx)) (fun x hx => hc x (hm x hx)) (by omega) (some (ad.add (j * 4))) (c0 - j) (by omega) R hR1 hR2 w (by rw [hlen]; exact sub_C l hr0 hc0 j n h1 h2)
 rw [hlen, List.map_take] at h
 exact h
theorem entry_check (c : List PBlock.Row) (hc : c ≠ []) (hck : ∀ r ∈ c, PBlock.check r = 0) (hl : c.length ≤ 1000) (a : Nat) (ha : a ≤ 1000000) : PBlock.check (PTable.entry a c) = 0 := by
 have h1 : c.getLastD PTable.zeroRow ∈ c := by
  rw [List.getLastD_eq_getLast?]
  cases e : c.getLast? with
  | none => rw [List.getLast?_eq_none_iff] at e; exact absurd e hc
  | some x => exact List.mem_of_getLast? e
 have h2 : c.headD PTable.zeroRow ∈ c := by
  cases c with
  | nil => exact absurd rfl hc
  | cons x c => exact List.mem_cons_self
 obtain ⟨_, k1, _, k3, k4, k5, _⟩ := PBlock.check_ok (hck _ h1)
 obtain ⟨_, _, _, _, _, m5, _⟩ := PBlock.check_ok (hck _ h2)
 unfold PTable.entry
 generalize c.getLastD PTable.zeroRow = x at k1 k3 k4 k5
 generalize c.headD PTable.zeroRow = y at m5
 have e1 := PCode.putUint_length_ten (n := y.key.length) (by omega)
 have e2 := PCode.putUint_length_ten (n := a) (by omega)
 have e3 := PCode.putUint_length_ten (n := c.length) (by omega)
 unfold PBlock.check
 rw [if_neg, if_neg]
 ·dsimp only
  unfold PCode.putField
  simp only [List.length_append]
  omega
 ·dsimp only
  rintro (h | h | h | h | h)
  ·exact h.1 rfl
  ·exact k1 h
  ·omega
  ·omega
  ·omega
structure RS (w wr : World) (v8 : Value) (idx : List S28) (v9 : Value) (ks : List ByteArray) (B R Q : Int) : Prop where
 idx : Kd.R k28 28 wr w.heap.size (fun _ => True) v8 idx
 keys : Kd.R Kd.string 9 wr w.heap.size (fun _ => True) v9 ks
 opt : Blk wr w.heap.size 41 #[.int .i64 B, .int .i64 R, .int .i64 Q]
 low : Below w.heap.size w wr
section
variable {w wr w' : World} {v8 v9 : Value} {idx : List S28} {ks : List ByteArray} {B R Q : Int}
theorem RS.below (h : RS w wr v8 idx v9 ks B R Q) (hb : Below wr.heap.size wr w') : RS w w' v8 idx v9 ks B R Q := ⟨Kd.R_below h.idx hb, Kd.R_below h.keys hb, h.opt.below hb h.opt.lt, q0d h.low hb⟩
theorem RS.key (h : RS w wr v8 idx v9 ks B R Q) {v9' : Value} {ks' : List ByteArray} (hr : Kd.R Kd.string 9 w' w.heap.size (fun _ => True) v9' ks') (hg : wr.grownBy w' v9.ownBlock) (low : Below w.heap.size w w') : RS w w' v8 idx v9' ks' B R Q :=
 ⟨Kd.R_over' h.idx (Kd.R_typed h.keys) (by intro q hq; rw [List.mem_singleton.1 hq]; decide) hg, hr, h.opt.grown hg (fun e => Kd.R_ne h.keys h.opt (by decide) e), low⟩
theorem RS.row (h : RS w wr v8 idx v9 ks B R Q) {v8' : Value} {idx' : List S28} (hr : Kd.R k28 28 w' w.heap.size (fun _ => True) v8' idx') (hg : wr.grownBy w' v8.ownBlock) (low : Below w.heap.size w w') : RS w w' v8' idx' v9 ks B R Q :=
 ⟨hr, Kd.R_over' h.keys (Kd.R_typed h.idx) (by intro q hq; rw [List.mem_singleton.1 hq]; decide) hg, h.opt.grown hg (fun e => Kd.R_ne h.idx h.opt (by decide) e), low⟩
end
end Go.Proofs.Ytaigmemmgjlhgaa.Tab
