/- Texts of this claim, joined by a program of this session (wip/pack.py): TabS, TabT, TabU, TabNone. -/
import Derived.Maps.OwnIn
import Derived.Test.YtaigmemmgjlhgaaQTableNone4
import Derived.Test.YtaigmemmgjlhgaaQTableNone22
import Derived.Test.YtaigmemmgjlhgaaQTableNone23
-- TabS
namespace Go.Proofs.Ytaigmemmgjlhgaa.Tab
open Go.RowKit Go.Shelf Aid Txt Print PLink Block Bits Go.Proofs.YtaigmemmgjlhgaaW.PrintWords
attribute [local go_sem] Oper.semAt_some
attribute [local go_sem] run_store_func
/-- Scan's variables -/
structure SB (w wr : World) (bt : Nat) (a b : ByteArray) (r : Value) (e : Int) (v : Value) (ok : Nat → Prop) (out : List S28) : Prop where
  x3 : Blk wr w.heap.size 23 #[.pointer (some ⟨bt, 0, none⟩)]
  x4 : Blk wr (w.heap.size + 1) 9 #[.string a]
  x5 : Blk wr (w.heap.size + 1 + 1) 9 #[.string b]
  x6 : Blk wr (w.heap.size + 1 + 1 + 1) 32 #[r]
  x7 : Blk wr (w.heap.size + 1 + 1 + 1 + 1) 29 #[.int .i64 e]
  x8 : Blk wr (w.heap.size + 1 + 1 + 1 + 1 + 1) 32 #[v]
  row : Kd.R k28 28 wr w.heap.size ok v out
  low : Below w.heap.size w wr
section
variable {w wr w' : World} {bt : Nat} {a b : ByteArray} {r : Value} {e : Int} {v : Value} {ok : Nat → Prop} {out : List S28}
theorem SB.below (h : SB w wr bt a b r e v ok out) (hb : Below wr.heap.size wr w') : SB w w' bt a b r e v ok out :=
  ⟨h.x3.below hb h.x3.lt, h.x4.below hb h.x4.lt, h.x5.below hb h.x5.lt, h.x6.below hb h.x6.lt, h.x7.below hb h.x7.lt, h.x8.below hb h.x8.lt, Kd.R_below h.row hb, below_then h.low hb⟩
theorem SB.wide (h : SB w wr bt a b r e v ok out) : SB w wr bt a b r e v (fun _ => True) out :=
  ⟨h.x3, h.x4, h.x5, h.x6, h.x7, h.x8, Kd.R_mono h.row (fun _ _ => trivial), h.low⟩
theorem SB.own {row : Option Nat} (h : SB w wr bt a b r e v ok out) (hg : wr.grownBy w' row) (hr : ∀ r, row = some r → w.heap.size ≤ r ∧ ∃ o : Obj, wr.heap[r]? = some o ∧ o.isCells = false) : SB w w' bt a b r e v ok out := by
  refine ⟨blk_grown_ h.x3 hg (fun r e => (hr r e).2), blk_grown_ h.x4 hg (fun r e => (hr r e).2), blk_grown_ h.x5 hg (fun r e => (hr r e).2), blk_grown_ h.x6 hg (fun r e => (hr r e).2), blk_grown_ h.x7 hg (fun r e => (hr r e).2), blk_grown_ h.x8 hg (fun r e => (hr r e).2), ?_, low_own h.low hg (fun r e => (hr r e).1)⟩
  refine Kd.R_mono (Kd.R_grown (Kd.R_bound h.row) hg fun k hk e => ?_) (fun _ hk => hk.1)
  obtain ⟨_, _, _, q, _, cells, hc⟩ := hk
  obtain ⟨o, ho, hn⟩ := (hr k e.symm).2
  rw [hc] at ho
  injection ho with ho
  subst ho
  cases hn
/-- a row is appended -/
theorem SB.push {W1 w1 : World} {v' : Value} {x : S28} (h : SB w wr bt a b r e v ok out) (hW1 : Below wr.heap.size wr W1) (hg : W1.grownBy w1 v.ownBlock) (hR : Kd.R k28 28 w1 w.heap.size ok v' (out ++ [x])) :
    SB w (w1.setCell ⟨w.heap.size + 1 + 1 + 1 + 1 + 1, 0, none⟩ v') bt a b r e v' ok (out ++ [x]) := by
  have g := h.below hW1
  have n3 := Kd.R_ne g.row g.x3 (by decide)
  have n4 := Kd.R_ne g.row g.x4 (by decide)
  have n5 := Kd.R_ne g.row g.x5 (by decide)
  have n6 := Kd.R_ne g.row g.x6 (by decide)
  have n7 := Kd.R_ne g.row g.x7 (by decide)
  have n8 := Kd.R_ne g.row g.x8 (by decide)
  have y8 := g.x8.grown hg n8
  exact ⟨(g.x3.grown hg n3).far (by dsimp only; omega) _, (g.x4.grown hg n4).far (by dsimp only; omega) _, (g.x5.grown hg n5).far (by dsimp only; omega) _, (g.x6.grown hg n6).far (by dsimp only; omega) _, (g.x7.grown hg n7).far (by dsimp only; omega) _, y8.set_ 0 _,
    Kd.R_set hR y8 (by intro q hq; rw [List.mem_singleton.1 hq]; decide) 0 _,
    (g.low.trans ((Below.refl _ W1).grown hg g.low.size (fun k e => Kd.R_base g.row k e))).setCell (p := ⟨w.heap.size + 1 + 1 + 1 + 1 + 1, 0, none⟩) (by show w.heap.size ≤ w.heap.size + 1 + 1 + 1 + 1 + 1; omega) _⟩
/-- the answers are written -/
theorem SB.write (h : SB w wr bt a b r e v ok out) (r' : Value) (e' : Int) : SB w ((wr.setCell ⟨w.heap.size + 1 + 1 + 1, 0, none⟩ r').setCell ⟨w.heap.size + 1 + 1 + 1 + 1, 0, none⟩ (.int .i64 e')) bt a b r' e' v ok out := by
  refine ⟨?_, ?_, ?_, ?_, ?_, ?_, ?_, ?_⟩
  · exact (h.x3.far (by dsimp only; omega) _).far (by dsimp only; omega) _
  · exact (h.x4.far (by dsimp only; omega) _).far (by dsimp only; omega) _
  · exact (h.x5.far (by dsimp only; omega) _).far (by dsimp only; omega) _
  · exact (h.x6.set_ 0 _).far (by dsimp only; omega) _
  · exact (h.x7.far (by dsimp only; omega) _).set_ 0 _
  · exact (h.x8.far (by dsimp only; omega) _).far (by dsimp only; omega) _
  · exact Kd.R_set (Kd.R_set h.row h.x6 (by intro q hq; rw [List.mem_singleton.1 hq]; decide) 0 _) (h.x7.far (by dsimp only; omega) _) (by intro q hq; rw [List.mem_singleton.1 hq]; decide) 0 _
  · exact (h.low.setCell (p := ⟨w.heap.size + 1 + 1 + 1, 0, none⟩) (by show w.heap.size ≤ w.heap.size + 1 + 1 + 1; omega) _).setCell (p := ⟨w.heap.size + 1 + 1 + 1 + 1, 0, none⟩) (by show w.heap.size ≤ w.heap.size + 1 + 1 + 1 + 1; omega) _
end
/-- Scan's iterator finds what it found, where a row is appended -/
theorem SI.push {w wr W1 w1 : World} {bt b1 b2 b4 : Nat} {key : ByteArray} {a b : ByteArray} {r : Value} {e : Int} {v v' : Value} {ok : Nat → Prop} {out : List S28} (g : SI w wr bt b1 b2 b4 key) (h : SB w wr bt a b r e v ok out) (hW1 : Below wr.heap.size wr W1) (hg : W1.grownBy w1 v.ownBlock) :
    SI w (w1.setCell ⟨w.heap.size + 1 + 1 + 1 + 1 + 1, 0, none⟩ v') bt b1 b2 b4 key := by
  have k := h.below hW1
  have g := g.below hW1
  have n1 := Kd.R_ne k.row g.x1 (by decide)
  have n2 := Kd.R_ne k.row g.x2 (by decide)
  have n4 := Kd.R_ne k.row g.x4 (by decide)
  have m1 : b1 ≠ w.heap.size + 1 + 1 + 1 + 1 + 1 := g.x1.ne_ k.x8 (by decide)
  have m2 : b2 ≠ w.heap.size + 1 + 1 + 1 + 1 + 1 := g.x2.ne_ k.x8 (by decide)
  have m4 : b4 ≠ w.heap.size + 1 + 1 + 1 + 1 + 1 := g.x4.ne_ k.x8 (by decide)
  exact ⟨(k.low.trans ((Below.refl _ W1).grown hg k.low.size (fun k' e => Kd.R_base k.row k' e))).setCell (p := ⟨w.heap.size + 1 + 1 + 1 + 1 + 1, 0, none⟩) (by show w.heap.size ≤ w.heap.size + 1 + 1 + 1 + 1 + 1; omega) _,
    (g.x1.grown hg n1).far m1 _, (g.x2.grown hg n2).far m2 _, (g.x4.grown hg n4).far m4 _⟩
theorem SB.new (w : World) (bt : Nat) (a b : ByteArray) :
    SB w ((((((w.alloc (.cells #[.pointer (some ⟨bt, 0, none⟩)] 23)).alloc (.cells #[.string a] 9)).alloc (.cells #[.string b] 9)).alloc (.cells #[.slice none 0 0] 32)).alloc (.cells #[.int .i64 0] 29)).alloc (.cells #[.slice none 0 0] 32)) bt a b (.slice none 0 0) 0 (.slice none 0 0) (fun _ => True) [] := by
  generalize h1 : w.alloc (.cells #[.pointer (some ⟨bt, 0, none⟩)] 23) = w1
  have e1 : w1.heap.size = w.heap.size + 1 := by rw [← h1]; simp
  have a3 : Blk w1 w.heap.size 23 #[.pointer (some ⟨bt, 0, none⟩)] := by rw [← h1]; exact Blk.new w _ _
  have b1 : Below w.heap.size w w1 := by rw [← h1]; exact (Below.refl _ w).alloc (Nat.le_refl _) _
  generalize h2 : w1.alloc (.cells #[.string a] 9) = w2
  have e2 : w2.heap.size = w.heap.size + 1 + 1 := by rw [← h2, World.size_alloc, e1]
  have a4 : Blk w2 (w.heap.size + 1) 9 #[.string a] := by rw [← h2, ← e1]; exact Blk.new w1 _ _
  have a3 : Blk w2 w.heap.size 23 #[.pointer (some ⟨bt, 0, none⟩)] := by rw [← h2]; exact a3.alloc _
  have b2 : Below w.heap.size w w2 := by rw [← h2]; exact b1.alloc b1.size _
  generalize h3 : w2.alloc (.cells #[.string b] 9) = w3
  have e3 : w3.heap.size = w.heap.size + 1 + 1 + 1 := by rw [← h3, World.size_alloc, e2]
  have a5 : Blk w3 (w.heap.size + 1 + 1) 9 #[.string b] := by rw [← h3, ← e2]; exact Blk.new w2 _ _
  have a3 : Blk w3 w.heap.size 23 #[.pointer (some ⟨bt, 0, none⟩)] := by rw [← h3]; exact a3.alloc _
  have a4 : Blk w3 (w.heap.size + 1) 9 #[.string a] := by rw [← h3]; exact a4.alloc _
  have b3 : Below w.heap.size w w3 := by rw [← h3]; exact b2.alloc b2.size _
  generalize h4 : w3.alloc (.cells #[.slice none 0 0] 32) = w4
  have e4 : w4.heap.size = w.heap.size + 1 + 1 + 1 + 1 := by rw [← h4, World.size_alloc, e3]
  have a6 : Blk w4 (w.heap.size + 1 + 1 + 1) 32 #[.slice none 0 0] := by rw [← h4, ← e3]; exact Blk.new w3 _ _
  have a3 : Blk w4 w.heap.size 23 #[.pointer (some ⟨bt, 0, none⟩)] := by rw [← h4]; exact a3.alloc _
  have a4 : Blk w4 (w.heap.size + 1) 9 #[.string a] := by rw [← h4]; exact a4.alloc _
  have a5 : Blk w4 (w.heap.size + 1 + 1) 9 #[.string b] := by rw [← h4]; exact a5.alloc _
  have b4 : Below w.heap.size w w4 := by rw [← h4]; exact b3.alloc b3.size _
  generalize h5 : w4.alloc (.cells #[.int .i64 0] 29) = w5
  have e5 : w5.heap.size = w.heap.size + 1 + 1 + 1 + 1 + 1 := by rw [← h5, World.size_alloc, e4]
  have a7 : Blk w5 (w.heap.size + 1 + 1 + 1 + 1) 29 #[.int .i64 0] := by rw [← h5, ← e4]; exact Blk.new w4 _ _
  have b5 : Below w.heap.size w w5 := by rw [← h5]; exact b4.alloc b4.size _
  have k5 : Below w4.heap.size w4 w5 := by rw [← h5]; exact (Below.refl _ _).alloc (Nat.le_refl _) _
  have a8 : Blk (w5.alloc (.cells #[.slice none 0 0] 32)) (w.heap.size + 1 + 1 + 1 + 1 + 1) 32 #[.slice none 0 0] := by rw [← e5]; exact Blk.new w5 _ _
  exact ⟨(a3.below k5 a3.lt).alloc _, (a4.below k5 a4.lt).alloc _, (a5.below k5 a5.lt).alloc _, (a6.below k5 a6.lt).alloc _, a7.alloc _, a8, Kd.R_nil _ _ _ _ _, b5.alloc b5.size _⟩
theorem infoRow : (Try.prog.info? 28).map (fun i => (i.zero, i.size, i.bytes)) = some (some (.agg #[.string ⟨#[]⟩, .int .u64 0, .int .i64 0, .string ⟨#[]⟩]), 4, 48) := by kernel_rfl
end Go.Proofs.Ytaigmemmgjlhgaa.Tab
-- TabT
namespace Go.Proofs.Ytaigmemmgjlhgaa.Tab
open Go.RowKit Aid Txt Print PLink Block Bits Go.Proofs.YtaigmemmgjlhgaaW.PrintWords
/-- the filter's text of some rows -/
def filt (l : List S28) (Q : Int) : List UInt8 := Bloom.filter Q.toNat (keysB l l.length)
/-- the table of some rows, and its error -/
def tab (l : List S28) (B R Q : Int) : List UInt8 × Nat := PTable.table (l.map rowS) B R Q (filt l Q)
/-- it, opened -/
def tabT (l : List S28) (B R Q : Int) : PTable.Tab := ⟨(tab l B R Q).1, filt l Q, PTable.partsW R 0 (PTable.chunks (l.map rowS) B R)⟩
theorem keysB_length (l : List S28) : (keysB l l.length).length ≤ l.length := by
  unfold keysB
  rw [List.length_map]
  exact PTable.keysTo_length _ _
theorem filt_length (l : List S28) (Q : Int) (hl : l.length ≤ 400) (hQ : Q ≤ 32) : (filt l Q).length ≤ 1601 := by
  unfold filt
  rw [Bloom.filter_length]
  have h1 := keysB_length l
  have := Bloom.width_hi (keysB l l.length).length Q.toNat (by omega) (by omega)
  omega
/-- what holds of a table that was built -/
structure Built (l : List S28) (B R Q : Int) : Prop where
  rt : PTable.right (l.map rowS) B R Q = 0
  idx : (PBlock.build (PTable.index R (PTable.chunks (l.map rowS) B R)) 1).2 = 0
  len : (PTable.whole R (PTable.chunks (l.map rowS) B R) (filt l Q)).length ≤ 262144
  txt : (tab l B R Q).1 = PTable.whole R (PTable.chunks (l.map rowS) B R) (filt l Q)
  few : l.length ≤ 400
theorem built_of {l : List S28} {B R Q : Int} (hl : l.length ≤ 400) (h : (tab l B R Q).2 = 0) : Built l B R Q := by
  have hr : PTable.right (l.map rowS) B R Q = 0 := by
    unfold tab PTable.table at h
    split at h
    · exact h
    · rename_i hn
      exact Classical.byContradiction hn
  have hb : ¬ ((PBlock.build (PTable.index R (PTable.chunks (l.map rowS) B R)) 1).2 ≠ 0 ∨ 262144 < (PTable.whole R (PTable.chunks (l.map rowS) B R) (filt l Q)).length) := by
    intro hb
    unfold tab at h
    rw [table_big hr hb] at h
    cases h
  refine ⟨hr, Classical.byContradiction fun e => hb (.inl e), Nat.le_of_not_lt fun e => hb (.inr e), ?_, hl⟩
  unfold tab PTable.table
  rw [if_neg (by rw [hr]; simp), if_neg hb]
section
variable {l : List S28} {B R Q : Int}
theorem Built.chunk (h : Built l B R Q) : ∀ c ∈ PTable.chunks (l.map rowS) B R, PTable.Chunk R c := by
  obtain ⟨_, _, h1, h2, _, _, _, hc⟩ := right_zero h.rt
  exact PTable.chunks_ok B R h1 h2 hc
theorem Built.order (h : Built l B R Q) : PBlock.order (PTable.chunks (l.map rowS) B R).flatten = true := by
  rw [PTable.chunks_flat]
  exact (right_zero h.rt).2.2.2.2.2.2.1
theorem Built.open_ (h : Built l B R Q) : PTable.open_ chkB (tab l B R Q).1 = some (tabT l B R Q) := by
  obtain ⟨_, _, _, _, q1, q2, _, _⟩ := right_zero h.rt
  have h1 := keysB_length l
  have h2 := h.few
  have hf := filt_length l Q h.few (by omega)
  have hk : chkB (filt l Q) = true := by
    unfold chkB filt
    rw [Bloom.chk_filter _ _ (by omega) (by omega)]
    rfl
  unfold tabT
  rw [h.txt]
  exact PTable.open_whole chkB R _ _ hk (by omega) h.idx h.len h.chunk
theorem Built.shows (h : Built l B R Q) : PTable.Shows (fun p c => PTable.readT (tab l B R Q).1 p = some c) (tabT l B R Q).parts (PTable.chunks (l.map rowS) B R) := by
  rw [h.txt]
  exact PTable.shows_table R _ _ h.chunk
theorem Built.has (h : Built l B R Q) : ∀ r ∈ l.map rowS, hasB (filt l Q) r.key = true := by
  obtain ⟨_, _, _, _, q1, q2, _, _⟩ := right_zero h.rt
  intro r hr
  unfold hasB filt
  refine Bloom.has_filter _ _ (by omega) _ ?_
  unfold keysB
  refine List.mem_map.2 ⟨r.key, ?_, rfl⟩
  have := PTable.keys_mem hr
  unfold PTable.keys at this
  rwa [List.length_map] at this
theorem Built.get (h : Built l B R Q) (key : List UInt8) (n : Nat) : PTable.get hasB (tabT l B R Q) key n = ((PTable.hv (l.map rowS) key n).1, (PTable.hv (l.map rowS) key n).2, 0) := by
  have hf := PTable.chunks_flat (l.map rowS) B R
  have := PTable.get_hv hasB (tab l B R Q).1 (filt l Q) (tabT l B R Q).parts _ h.shows h.order (by rw [hf]; exact h.has) key n
  rw [hf] at this
  exact this
theorem Built.size (h : Built l B R Q) : (tab l B R Q).1.length ≤ 262144 := by rw [h.txt]; exact h.len
theorem lies_parts (n R : _) (cs : List (List PBlock.Row)) (hc : ∀ c ∈ cs, PTable.Chunk R c) (hn : (PTable.bodyOf R cs).length ≤ n) : ∀ p ∈ PTable.partsW R 0 cs, Lies n p := fun p hp => by
  obtain ⟨h1, h2, h3, h4⟩ := PTable.partsW_bounds R cs 0 n hc (by omega) p hp
  exact ⟨h1, h2, h3, h4⟩
theorem Built.lies (h : Built l B R Q) : ∀ p ∈ (tabT l B R Q).parts, Lies (tab l B R Q).1.length p := by
  refine lies_parts _ R _ h.chunk ?_
  rw [h.txt]
  exact whole_ge _ _ _
theorem chunks_length (B R : Int) (k : Nat) : ∀ l : List PBlock.Row, (PTable.chunksAt B R k l).length ≤ k := by
  induction k with
  | zero => intro l; exact Nat.le_refl _
  | succ k ih =>
    intro l
    rw [PTable.chunksAt]
    split
    · exact Nat.zero_le _
    · rw [List.length_cons]; have := ih (l.drop (PTable.cut l B R)); omega
theorem Built.parts_few (h : Built l B R Q) : (tabT l B R Q).parts.length ≤ 400 := by
  unfold tabT
  rw [PTable.partsW_length]
  have h1 := chunks_length B R (l.map rowS).length (l.map rowS)
  have h2 := h.few
  rw [List.length_map] at h1
  unfold PTable.chunks
  rw [List.length_map]
  omega
theorem Built.rows (h : Built l B R Q) : rowsIn ((tabT l B R Q).parts.map partB) = (l.length : Int) := by
  have h1 := PTable.shows_rows h.shows
  rw [PTable.chunks_flat, List.length_map] at h1
  rw [← h1]
  unfold rowsIn
  generalize (tabT l B R Q).parts = ps
  clear h1
  induction ps with
  | nil => rfl
  | cons p ps ih =>
    rw [List.map_cons, List.map_cons, List.sum_cons, List.map_cons, List.sum_cons, ih]
    push_cast
    rfl
theorem Built.parts_rows (h : Built l B R Q) : ∀ p ∈ (tabT l B R Q).parts.map partB, 0 ≤ p.f3 ∧ p.f3 ≤ 1024 := by
  intro p hp
  obtain ⟨x, hx, rfl⟩ := List.mem_map.1 hp
  have h1 := (h.lies x hx).rows
  show 0 ≤ (x.rows : Int) ∧ (x.rows : Int) ≤ 1024
  omega
theorem Built.first (h : Built l B R Q) : ((((tabT l B R Q).parts.map partB).head?.map fun p => p.f0).getD ⟨#[]⟩) = Txt.B ((l.map rowS).headD PTable.zeroRow).key := by
  have h1 := PTable.shows_first h.shows
  rw [PTable.chunks_flat] at h1
  rw [← h1]
  generalize (tabT l B R Q).parts = ps
  cases ps <;> rfl
theorem Built.last (h : Built l B R Q) : ((((tabT l B R Q).parts.map partB).getLast?.map fun p => p.f1).getD ⟨#[]⟩) = Txt.B ((l.map rowS).getLastD PTable.zeroRow).key := by
  have h1 := PTable.shows_last h.shows
  rw [PTable.chunks_flat] at h1
  rw [← h1]
  generalize (tabT l B R Q).parts = ps
  rw [List.getLast?_map]
  cases ps.getLast? <;> rfl
end
/-- it lies in memory -/
def Lain (w : World) (b : Nat) (l : List S28) (B R Q : Int) : Prop := ∃ A c, At w b (Txt.B (tab l B R Q).1) (Txt.B (filt l Q)) A c ((tabT l B R Q).parts.map partB)
section
variable {w w' : World} {b : Nat} {l : List S28} {B R Q : Int}
theorem Lain.below (h : Lain w b l B R Q) (hb : Below w.heap.size w w') : Lain w' b l B R Q := by
  obtain ⟨A, c, h⟩ := h
  exact ⟨A, c, h.below hb⟩
theorem Lain.lt (h : Lain w b l B R Q) : b < w.heap.size := by
  obtain ⟨A, c, h⟩ := h
  exact h.blk.lt
theorem build_tab (hl : ∀ x ∈ l, Fit x) (hs : l.length ≤ 1000) (A0 : Option Addr) (c0 : Nat) (hc0 : l.length ≤ c0) (w : World) (hr0 : Kd.C k28 w A0 l.length l) :
    Calls Try.prog 16 #[.slice A0 l.length c0, .agg #[.int .i64 B, .int .i64 R, .int .i64 Q]] w fun e w' => e = .returned (.tuple #[.string (Txt.B (tab l B R Q).1), .int .i64 ((tab l B R Q).2 : Nat)]) ∧ Below w.heap.size w w' :=
  build_any l hl hs A0 c0 hc0 B R Q w hr0
theorem open_tab (hB : Built l B R Q) (w : World) :
    Calls Try.prog 17 #[.string (Txt.B (tab l B R Q).1)] w fun e w' => ∃ b, e = .returned (.tuple #[.pointer (some ⟨b, 0, none⟩), .int .i64 0]) ∧ Lain w' b l B R Q ∧ w.heap.size ≤ b ∧ Below w.heap.size w w' := by
  have h := open_any (Txt.B (tab l B R Q).1) w (by rw [size_B]; have := hB.size; omega)
  rw [L_B, hB.open_] at h
  refine h.mono ?_
  rintro e w' ⟨⟨b, A, c, rfl, h1, h2⟩, h3⟩
  exact ⟨b, rfl, ⟨A, c, h1⟩, h2, h3⟩
theorem Len_tab (hB : Built l B R Q) (h : Lain w b l B R Q) : Calls Try.prog 11 #[.pointer (some ⟨b, 0, none⟩)] w fun e w' => e = .returned (.int .i64 (l.length : Int)) ∧ Below w.heap.size w w' := by
  obtain ⟨A, c, h⟩ := h
  have h1 := Len_any h hB.parts_rows (by rw [List.length_map]; have := hB.parts_few; omega)
  rw [hB.rows] at h1
  exact h1
theorem First_tab (hB : Built l B R Q) (h : Lain w b l B R Q) : Calls Try.prog 12 #[.pointer (some ⟨b, 0, none⟩)] w fun e w' => e = .returned (.string (Txt.B ((l.map rowS).headD PTable.zeroRow).key)) ∧ Below w.heap.size w w' := by
  obtain ⟨A, c, h⟩ := h
  have h1 := First_any h
  rw [hB.first] at h1
  exact h1
theorem Last_tab (hB : Built l B R Q) (h : Lain w b l B R Q) : Calls Try.prog 13 #[.pointer (some ⟨b, 0, none⟩)] w fun e w' => e = .returned (.string (Txt.B ((l.map rowS).getLastD PTable.zeroRow).key)) ∧ Below w.heap.size w w' := by
  obtain ⟨A, c, h⟩ := h
  have h1 := Last_any h (by rw [List.length_map]; have := hB.parts_few; omega)
  rw [hB.last] at h1
  exact h1
end
/-- Get, where the filter has not the key -/
theorem Get_miss {w : World} {bt : Nat} {s f : ByteArray} {A : Option Addr} {c : Nat} {pts : List PTable.Part} (h : At w bt s f A c (pts.map partB)) (key : ByteArray) (hk : key.size ≤ 9223372036854775807) (n : Nat) (hh : hasB (L f) (L key) = false) :
    Calls Try.prog 9 #[.pointer (some ⟨bt, 0, none⟩), .string key, .int .u64 n] w fun e w' => e = .returned (getV (PTable.get hasB ⟨L s, L f, pts⟩ (L key) n)) ∧ Below w.heap.size w w' := by
  have hB := Bloom.has_any f key hk
  rw [show Bloom.has f key = false by have := hh; unfold hasB at this; rwa [B_L, B_L] at this] at hB
  have HB := Lib.hid hB
  have HA := Lib.hid h
  have hg : PTable.get hasB ⟨L s, L f, pts⟩ (L key) n = (PTable.zeroRow, false, 0) := by
    unfold PTable.get
    rw [if_pos hh]
  rw [hg]
  clear hB h hg
  go_enter Try.func9, Try.ntmps9
  go_wp2_with fail
  have g0 := GB.new w bt key n
  generalize (((((w.alloc _).alloc _).alloc _).alloc _).alloc _).alloc _ = W1 at g0 ⊢
  have hA1 := HA.out.below_of g0.low
  refine (hA1.open_).mono ?_
  rintro e w' ⟨rfl, rfl⟩
  have c3 := (g0.x3.cell 0).trans rfl
  have c4 := (g0.x4.cell 0).trans rfl
  have cf := (hA1.blk.cell 1).trans rfl
  have lt := hA1.blk.lt
  go_wp2_with fail
  go_region_held3 (fun w' => w'.cell? ⟨w.heap.size, 0, none⟩ = some (.pointer (some ⟨bt, 0, none⟩)) ∧ w'.cell? ⟨w.heap.size + 1, 0, none⟩ = some (.string key) ∧ w'.cell? ⟨bt, 1, none⟩ = some (.string f)) (exact ⟨c3, c4, cf⟩) (first | (((with_reducible refine (HB.out _).mono ?_); rintro e w2 ⟨rfl, hb2⟩; have c3 := (hb2.cell (World.block_lt_of_cell? W1 _ c3)).trans c3; have c4 := (hb2.cell (World.block_lt_of_cell? W1 _ c4)).trans c4; have cf := (hb2.cell (World.block_lt_of_cell? W1 _ cf)).trans cf)))
  have hb := below_then (Below.refl W1.heap.size W1).drew hb2
  have gb := g0.below hb
  have GB2 := Lib.hid (gb.write ⟨⟨#[]⟩, 0, 0, ⟨#[]⟩⟩ false 0)
  have q0 := (gb.x6.cell 0).trans rfl
  have q1 := (gb.x6.cell 1).trans rfl
  have q2 := (gb.x6.cell 2).trans rfl
  have q3 := (gb.x6.cell 3).trans rfl
  have q4 := (gb.x7.cell 0).trans rfl
  have q5 := (gb.x8.cell 0).trans rfl
  have f0 := gb.x6.frozen 0
  have f1 := gb.x6.frozen 1
  have f2 := gb.x6.frozen 2
  have f3 := gb.x6.frozen 3
  have f4 := gb.x7.frozen 0
  have f5 := gb.x8.frozen 0
  have l6 := gb.x6.lt
  have l7 := gb.x7.lt
  have l8 := gb.x8.lt
  go_wp2_with fail
  clear q0 q1 q2 q3 q4 q5 f0 f1 f2 f3 f4 f5 gb
  change bodyPost _ _ _ _ _ (wrote w w2 ⟨⟨#[]⟩, 0, 0, ⟨#[]⟩⟩ false 0)
  have gb2 := GB2.out
  generalize wrote w w2 ⟨⟨#[]⟩, 0, 0, ⟨#[]⟩⟩ false 0 = W9 at gb2 ⊢
  have q0 := (gb2.x6.cell 0).trans rfl
  have q1 := (gb2.x6.cell 1).trans rfl
  have q2 := (gb2.x6.cell 2).trans rfl
  have q3 := (gb2.x6.cell 3).trans rfl
  have q4 := (gb2.x7.cell 0).trans rfl
  have q5 := (gb2.x8.cell 0).trans rfl
  refine ⟨rfl, getV (PTable.zeroRow, false, 0), ?_, rfl, gb2.low⟩
  simp [results, Try.results9, go_sem, q0, q1, q2, q3, q4, q5, getV, rowB, PTable.zeroRow]
section
variable {w w' : World} {b : Nat} {l : List S28} {B R Q : Int}
/-- what Get answers of a table that was built -/
def getR (l : List S28) (key : ByteArray) (n : Nat) : Value := getV ((PTable.hv (l.map rowS) (L key) n).1, (PTable.hv (l.map rowS) (L key) n).2, 0)
theorem Get_tab (hB : Built l B R Q) (h : Lain w b l B R Q) (key : ByteArray) (hk : key.size ≤ 9223372036854775807) (n : Nat) : Calls Try.prog 9 #[.pointer (some ⟨b, 0, none⟩), .string key, .int .u64 n] w fun e w' => e = .returned (getR l key n) ∧ Below w.heap.size w w' := by
  obtain ⟨A, c, h⟩ := h
  have hg := hB.get (L key) n
  unfold getR
  rw [← hg]
  have hs : (Txt.B (tab l B R Q).1).size ≤ 262144 := by rw [size_B]; exact hB.size
  have hL : ∀ p ∈ (tabT l B R Q).parts, Lies (Txt.B (tab l B R Q).1).size p := by rw [size_B]; exact hB.lies
  cases hh : hasB (filt l Q) (L key) with
  | true => exact Get_any h hs hL (by have := hB.parts_few; omega) key hk n hh
  | false => exact Get_miss h key hk n hh
end
end Go.Proofs.Ytaigmemmgjlhgaa.Tab
-- TabU
namespace Go.Proofs.Ytaigmemmgjlhgaa.Tab
open Go.RowKit Aid Txt Print PLink Block Bits Go.Proofs.YtaigmemmgjlhgaaW.PrintWords
theorem put_le {p : List UInt8} (h : p.length ≤ 65536) : (PFrame.put p).1.length ≤ p.length + 14 := by
  have := PCode.putUint_length_ten (n := p.length) (by omega)
  rw [PFrame.put_ok h]
  unfold PCode.putField
  rw [List.length_append, List.length_append, PFrame.seal_length]
  omega
/-- the one row, as the machine has it -/
def rowL : List S28 := [(⟨(⟨#[97]⟩ : ByteArray), 1, 1, (⟨#[120]⟩ : ByteArray)⟩ : S28)]
theorem rowL_map : rowL.map rowS = [row1] := rfl
theorem rowL_fit : ∀ x ∈ rowL, Fit x := by
  intro x hx
  rw [List.mem_singleton.1 hx]
  exact ⟨by show (0 : Int) ≤ 1; omega, by show (1 : Int) < 18446744073709551616; omega⟩
theorem index1 : (PBlock.build (PTable.index 16 [[row1]]) 1).2 = 0 := by
  have hc : PBlock.check (PTable.entry 0 [row1]) = 0 := by
    have h1 := PCode.putUint_length_ten (n := 1) (by omega)
    have h0 := PCode.putUint_length_ten (n := 0) (by omega)
    have hv : (PTable.entry 0 [row1]).value.length ≤ 2048 := by
      unfold PTable.entry PCode.putField
      simp only [List.length_append]
      simp [row1]
      omega
    unfold PBlock.check
    rw [if_neg (by rintro (h | h | h | h | h) <;> simp [PTable.entry, row1] at h), if_neg]
    rintro (h | h)
    · simp [PTable.entry, row1] at h
    · omega
  exact one_ok (l := [PTable.entry 0 [row1]]) (by intro r hr; rw [List.mem_singleton.1 hr]; exact hc) 1 (by omega) (by omega)
theorem tab1 : (tab rowL 64 16 10).2 = 0 := by
  have hi := index1
  have h1 := build1 16 (by omega) (by omega)
  have hf := filt_length rowL 10 (by decide) (by omega)
  have l1 := (PBlock.build_ok (l := PTable.index 16 [[row1]]) (s := (PBlock.build (PTable.index 16 [[row1]]) 1).1) (Prod.ext rfl hi)).2.2.2.2.2.2
  have l2 := (PBlock.build_ok (l := [row1]) (s := (PBlock.build [row1] 16).1) (Prod.ext rfl h1)).2.2.2.2.2.2
  have hw : (PTable.whole 16 [[row1]] (filt rowL 10)).length ≤ 262144 := by
    unfold PTable.whole
    simp only [List.length_append, PTable.foot_length]
    have e1 := put_le (p := filt rowL 10) (by omega)
    have e2 := put_le l1
    have e3 := put_le l2
    have e4 : (PTable.bodyOf 16 [[row1]]).length = (PFrame.put (PBlock.build [row1] 16).1).1.length := by
      rw [PTable.bodyOf_cons]
      rfl
    omega
  unfold tab PTable.table
  rw [rowL_map, right1, if_neg (by simp), chunks1, hi, if_neg]
  rintro (h | h)
  · exact h rfl
  · omega
theorem built1 : Built rowL 64 16 10 := built_of (by decide) tab1
theorem lit1 (w : World) : Kd.C k28 (w.alloc (.cells #[.string ⟨#[97]⟩, .int .u64 1, .int .i64 1, .string ⟨#[120]⟩] 28)) (some ⟨w.heap.size, 0, none⟩) rowL.length rowL := by
  have h : Kd.R k28 28 (w.alloc (.cells #[.string ⟨#[97]⟩, .int .u64 1, .int .i64 1, .string ⟨#[120]⟩] 28)) w.heap.size (fun _ => True) (.slice (some ⟨w.heap.size, 0, none⟩) 1 1) rowL := by
    refine ⟨fun _ _ => trivial, [.string ⟨#[97]⟩, .int .u64 1, .int .i64 1, .string ⟨#[120]⟩], ?_, ?_⟩
    · exact World.ownsRow_lit (base := w.heap.size) (e := 28) (size := 4) w #[.string ⟨#[97]⟩, .int .u64 1, .int .i64 1, .string ⟨#[120]⟩] 1 (Nat.le_refl _) (by decide) rfl
    · exact Reps.snoc (Reps.none _ _) (k28_mkM _ _ _ _) rfl
  exact (Kd.R_reads' h).2.2
theorem open_nil : PTable.open_ chkB [] = none := by
  unfold PTable.open_
  rw [if_pos (by simp)]
theorem get1 : getR rowL ⟨#[97]⟩ 5 = .tuple #[.agg #[.string ⟨#[97]⟩, .int .u64 1, .int .i64 1, .string ⟨#[120]⟩], .bool true, .int .i64 0] := by
  unfold getR
  rw [rowL_map, show L (⟨#[97]⟩ : ByteArray) = [97] from rfl, show PTable.hv [row1] [97] 5 = (row1, true) by simp [PTable.hv, row1]]
  rfl
set_option maxRecDepth 100000 in
set_option maxHeartbeats 4000000 in
theorem awake_any (w : World) : Calls Try.prog 15 #[] w fun e w' => e = .returned (.bool true) ∧ Below w.heap.size w w' := by
  have hl := lit1 w
  have PB := build_tab (B := 64) (R := 16) (Q := 10) rowL_fit (by decide) (some ⟨w.heap.size, 0, none⟩) 1 (by decide) _ hl
  rw [tab1] at PB
  have PB := Lib.hid PB
  have PO := Lib.hid (fun w' => open_tab built1 w')
  have PN := Lib.hid (fun w' => open_any (⟨#[]⟩ : ByteArray) w' (by decide))
  clear hl
  generalize Txt.B (tab rowL 64 16 10).1 = S at PB PO
  go_enter Try.func15, Try.ntmps15
  go_wp2_with fail
  refine (PB.out).mono ?_
  rintro e w1 ⟨rfl, hb1⟩
  have hB := below_then ((Below.refl w.heap.size w).alloc (Nat.le_refl _) _) hb1
  clear hb1
  go_wp2_with fail
  refine (PO.out _).mono ?_
  rintro e w2 ⟨b, rfl, hL, hbl, hb2⟩
  have hB := below_then hB hb2
  clear hb2
  have PG := Lib.hid (Get_tab built1 hL ⟨#[97]⟩ (by decide) 5)
  rw [get1] at PG
  go_wp2_with fail
  refine (PG.out).mono ?_
  rintro e w3 ⟨rfl, hb3⟩
  have hB := below_then hB hb3
  have hL := hL.below hb3
  clear hb3 PG
  have hb4 := (Below.refl w3.heap.size w3).alloc (Nat.le_refl _) (.cells #[.string ⟨#[97]⟩, .int .u64 1, .int .i64 1, .string ⟨#[120]⟩] 28)
  have BR := Blk.new w3 28 #[.string ⟨#[97]⟩, .int .u64 1, .int .i64 1, .string ⟨#[120]⟩]
  have hB := below_then hB hb4
  have hL := hL.below hb4
  clear hb4
  go_wp2_with fail
  refine (PN.out _).mono ?_
  rintro e w4 ⟨ho, hb5⟩
  rw [show L (⟨#[]⟩ : ByteArray) = [] from rfl, open_nil] at ho
  obtain rfl : e = .returned (.tuple #[.pointer none, .int .i64 10]) := ho
  have hB := below_then hB hb5
  have hL := hL.below hb5
  have BR := BR.below hb5 BR.lt
  have d3 := (BR.cell 3).trans rfl
  clear hb5
  have PL := Lib.hid (fun w' (h : Lain w' b rowL 64 16 10) => Len_tab built1 h)
  have PF := Lib.hid (fun w' (h : Lain w' b rowL 64 16 10) => First_tab built1 h)
  have PA := Lib.hid (fun w' (h : Lain w' b rowL 64 16 10) => Last_tab built1 h)
  rw [rowL_map] at PF PA
  rw [show Txt.B ((([row1] : List PBlock.Row).headD PTable.zeroRow).key) = (⟨#[97]⟩ : ByteArray) from rfl] at PF
  rw [show Txt.B ((([row1] : List PBlock.Row).getLastD PTable.zeroRow).key) = (⟨#[97]⟩ : ByteArray) from rfl] at PA
  go_wp2_with (first | (refine (PL.out _ hL).mono ?_; rintro e w5 ⟨rfl, hb6⟩; have hB := below_then hB hb6; have hL := hL.below hb6; clear hb6) | (refine (PF.out _ hL).mono ?_; rintro e w5 ⟨rfl, hb6⟩; have hB := below_then hB hb6; have hL := hL.below hb6; clear hb6) | (refine (PA.out _ hL).mono ?_; rintro e w5 ⟨rfl, hb6⟩; have hB := below_then hB hb6; have hL := hL.below hb6; clear hb6))
  go_ret
  exact ⟨rfl, hB⟩
end Go.Proofs.Ytaigmemmgjlhgaa.Tab
-- TabNone
namespace Go.Proofs.Ytaigmemmgjlhgaa.Tab
open Go.RowKit Aid Txt Print PLink Block Bits Go.Proofs.YtaigmemmgjlhgaaW.PrintWords
theorem eqRow (d : Nat) (w : World) (x0 y0 x3 y3 : ByteArray) (x1 y1 x2 y2 : Int) :
    (Op.equalIn (d + 2) 28 (.agg #[.string x0, .int .u64 x1, .int .i64 x2, .string x3]) (.agg #[.string y0, .int .u64 y1, .int .i64 y2, .string y3])).run Try.prog w = .ok (x0.toList == y0.toList && (x1 == y1 && (x2 == y2 && x3.toList == y3.toList))) w := by
  refine eqA_of Try.underlying28 (by kernel_rfl) ?_
  refine eqf_cons (by rfl) (by go_simp; rfl) (by go_simp; rfl) (by go_simp) ?_
  refine eqf_cons (by rfl) (by go_simp; rfl) (by go_simp; rfl) (by go_simp) ?_
  refine eqf_cons (by rfl) (by go_simp; rfl) (by go_simp; rfl) (by go_simp) ?_
  exact eqf_last (by rfl) (by go_simp; rfl) (by go_simp; rfl) (by go_simp)
attribute [local go_sem high] eqRow
/-- the zero table in memory -/
def Zero (w : World) (c : Nat) : Prop := Blk w c 26 #[.string ⟨#[]⟩, .string ⟨#[]⟩, .slice none 0 0, .bool false]
theorem Zero.none_ {w : World} {c : Nat} (h : Zero w c) : NoneIs true (some ⟨c, 0, none⟩) w := none_blk false h
set_option maxRecDepth 100000 in
set_option maxHeartbeats 4000000 in
theorem lawNone (key : ByteArray) (q : Int) (z : ByteArray) (w : World) : Calls Try.prog 3 #[.string key, .int .u64 q, .string z] w fun e w' => e = .returned (.bool true) ∧ Below w.heap.size w w' := by
  go_enter Try.func3, Try.ntmps3
  go_wp2_with fail
  have hR : Zero (w.alloc (.cells #[.string ⟨#[]⟩, .string ⟨#[]⟩, .slice none 0 0, .bool false] 26)) w.heap.size := Blk.new w _ _
  have hB := (Below.refl w.heap.size w).alloc (Nat.le_refl _) (.cells #[.string ⟨#[]⟩, .string ⟨#[]⟩, .slice none 0 0, .bool false] 26)
  generalize w.alloc _ = W1 at hR hB ⊢
  generalize hcc : w.heap.size = c at hR ⊢
  have HC := Lib.hid hcc
  clear hcc
  have HB := Lib.hid hB
  clear hB
  go_loopw [7, 9] (fun v7 v9 wr => ∃ i : Nat, i ≤ 2 ∧ v9 = .int .i64 i ∧ v7 = .pointer (if i ≤ 1 then none else some ⟨c, 0, none⟩) ∧ Below W1.heap.size W1 wr) (fun _ v9 _ => 2 - (intOf v9).toNat)
  case atStart => exact ⟨0, by omega, rfl, rfl, Below.refl _ _⟩
  case round =>
    obtain ⟨i, hi, rfl, rfl, hw⟩ := hrel
    have hN : ∀ p : Option Addr, (p = none ∨ p = some ⟨c, 0, none⟩) → ∀ w', Below W1.heap.size W1 w' → NoneIs true p w' := by
      rintro p (rfl | rfl) w' h
      · exact none_nil w'
      · exact Zero.none_ (Blk.below hR h hR.lt)
    have HN := Lib.hid hN
    clear hN
    obtain rfl | rfl | rfl : i = 0 ∨ i = 1 ∨ i = 2 := by omega
    · rw [if_pos (by omega)]
      go_wp2_with fail
      refine (Get_none none key q _ (fun w' h => HN.out none (.inl rfl) w' (below_then hw h))).mono ?_
      rintro e w1 ⟨rfl, hb1⟩
      have hw1 := below_then hw hb1
      clear hb1
      have BR := Blk.new w1 28 #[.string ⟨#[]⟩, .int .u64 0, .int .i64 0, .string ⟨#[]⟩]
      have hw2 := hw1.alloc hw1.size (.cells #[.string ⟨#[]⟩, .int .u64 0, .int .i64 0, .string ⟨#[]⟩] 28)
      go_wp2_with fail
      refine (Scan_none none key z _ (fun w' h => HN.out none (.inl rfl) w' (below_then hw2 h))).mono ?_
      rintro e w3 ⟨rfl, hb3⟩
      have hw3 := below_then hw2 hb3
      have BR := BR.below hb3 BR.lt
      clear hb3
      have d0 := (BR.cell 0).trans rfl
      have d1 := (BR.cell 1).trans rfl
      have d2 := (BR.cell 2).trans rfl
      have d3 := (BR.cell 3).trans rfl
      go_wp2_with (first | (refine (Len_none none _ (HN.out none (.inl rfl) _ hw3)).mono ?_; rintro e w4 ⟨rfl, rfl⟩) | (refine (First_none none _ (HN.out none (.inl rfl) _ hw3)).mono ?_; rintro e w4 ⟨rfl, rfl⟩) | (refine (Last_none none _ (HN.out none (.inl rfl) _ hw3)).mono ?_; rintro e w4 ⟨rfl, rfl⟩) | (refine (May_none none key _ (HN.out none (.inl rfl) _ hw3)).mono ?_; rintro e w4 ⟨rfl, rfl⟩))
      go_roundw
      case rel => exact ⟨1, by omega, rfl, rfl, hw3⟩
      case measure => simp [intOf]
    · rw [if_pos (by omega)]
      go_wp2_with fail
      refine (Get_none _ key q _ (fun w' h => HN.out _ (.inr rfl) w' (below_then hw h))).mono ?_
      rintro e w1 ⟨rfl, hb1⟩
      have hw1 := below_then hw hb1
      clear hb1
      have BR := Blk.new w1 28 #[.string ⟨#[]⟩, .int .u64 0, .int .i64 0, .string ⟨#[]⟩]
      have hw2 := hw1.alloc hw1.size (.cells #[.string ⟨#[]⟩, .int .u64 0, .int .i64 0, .string ⟨#[]⟩] 28)
      go_wp2_with fail
      refine (Scan_none _ key z _ (fun w' h => HN.out _ (.inr rfl) w' (below_then hw2 h))).mono ?_
      rintro e w3 ⟨rfl, hb3⟩
      have hw3 := below_then hw2 hb3
      have BR := BR.below hb3 BR.lt
      clear hb3
      have d0 := (BR.cell 0).trans rfl
      have d1 := (BR.cell 1).trans rfl
      have d2 := (BR.cell 2).trans rfl
      have d3 := (BR.cell 3).trans rfl
      go_wp2_with (first | (refine (Len_none _ _ (HN.out _ (.inr rfl) _ hw3)).mono ?_; rintro e w4 ⟨rfl, rfl⟩) | (refine (First_none _ _ (HN.out _ (.inr rfl) _ hw3)).mono ?_; rintro e w4 ⟨rfl, rfl⟩) | (refine (Last_none _ _ (HN.out _ (.inr rfl) _ hw3)).mono ?_; rintro e w4 ⟨rfl, rfl⟩) | (refine (May_none _ key _ (HN.out _ (.inr rfl) _ hw3)).mono ?_; rintro e w4 ⟨rfl, rfl⟩))
      go_roundw
      case rel => exact ⟨2, by omega, rfl, rfl, hw3⟩
      case measure => simp [intOf]
    · rw [if_neg (by omega)]
      go_wp2_with fail
      refine (awake_any _).mono ?_
      rintro e w1 ⟨rfl, hb⟩
      go_wp2_with fail
      go_ret
      have hw1 := below_then hw hb
      exact ⟨rfl, HB.out.trans (hw1.mono HB.out.size)⟩
end Go.Proofs.Ytaigmemmgjlhgaa.Tab
