/- Texts of this claim, joined by a program of this session (wip/pack.py): TabS, TabT, TabU, TabK, TabD, TabZ, TabY, TabX. -/
import Derived.Maps.OwnIn
import Derived.Test.YtaigmemmgjlhgaaQTableDamage4
import Derived.Test.YtaigmemmgjlhgaaQTableDamage13
import Derived.Test.YtaigmemmgjlhgaaQTableDamage19
import Derived.Test.YtaigmemmgjlhgaaQTableDamage20
import Derived.Test.YtaigmemmgjlhgaaQTableDamage21
import Derived.Test.YtaigmemmgjlhgaaQTableDamage22
import Derived.Test.YtaigmemmgjlhgaaQTableDamage24
-- TabS
namespace Go.Proofs.Ytaigmemmgjlhgaa.Tab
open Go.RowKit Go.Shelf Aid Txt Print PLink Block Bits Go.Proofs.YtaigmemmgjlhgaaW.PrintWords
attribute [local go_sem] Oper.semAt_some
attribute [local go_sem] run_store_func
structure SB (w wr : World) (bt : Nat) (a b : ByteArray) (r : Value) (e : Int) (v : Value) (ok : Nat → Prop) (out : List S28) : Prop where
 x3 : Blk wr w.heap.size 23 #[.pointer (some ⟨bt, 0, none⟩)]
 x4 : Blk wr (w.heap.size + 1) 9 #[.string a]
 x5 : Blk wr (w.heap.size + 1 + 1) 9 #[.string b]
 x6 : Blk wr (w.heap.size + 1 + 1 + 1) 32 #[r]
 x7 : Blk wr (w.heap.size + 1 + 1 + 1 + 1) 29 #[.int .i64 e]
 x8 : Blk wr (w.heap.size + 1 + 1 + 1 + 1 + 1) 32 #[v]
 row : Kd.R k28 28 wr w.heap.size ok v out
 low : Below w.heap.size w wr
section
variable {w wr w' : World} {bt : Nat} {a b : ByteArray} {r : Value} {e : Int} {v : Value} {ok : Nat → Prop} {out : List S28}
theorem SB.below (h : SB w wr bt a b r e v ok out) (hb : Below wr.heap.size wr w') : SB w w' bt a b r e v ok out :=
 ⟨h.x3.below hb h.x3.lt, h.x4.below hb h.x4.lt, h.x5.below hb h.x5.lt, h.x6.below hb h.x6.lt, h.x7.below hb h.x7.lt, h.x8.below hb h.x8.lt, Kd.R_below h.row hb, q0g h.low hb⟩
theorem SB.wide (h : SB w wr bt a b r e v ok out) : SB w wr bt a b r e v (fun _ => True) out :=
 ⟨h.x3, h.x4, h.x5, h.x6, h.x7, h.x8, Kd.R_mono h.row (fun _ _ => trivial), h.low⟩
theorem SB.narrow (h : SB w wr bt a b r e v ok out) : SB w wr bt a b r e v (fun k => k < wr.heap.size) out :=
 ⟨h.x3, h.x4, h.x5, h.x6, h.x7, h.x8, Kd.R_mono (Kd.R_bound h.row) (fun _ hk => hk.2.2.1), h.low⟩
theorem SB.some_ {ok' : Nat → Prop} (h : SB w wr bt a b r e v ok out) (hk : ∀ k, ok k → ok' k) : SB w wr bt a b r e v ok' out :=
 ⟨h.x3, h.x4, h.x5, h.x6, h.x7, h.x8, Kd.R_mono h.row hk, h.low⟩
theorem SB.own {row : Option Nat} (h : SB w wr bt a b r e v ok out) (hg : wr.grownBy w' row) (hr : ∀ r, row = some r → w.heap.size ≤ r ∧ ∃ o : Obj, wr.heap[r]? = some o ∧ o.isCells = false) : SB w w' bt a b r e v ok out := by
 refine ⟨q0t h.x3 hg (fun r e => (hr r e).2), q0t h.x4 hg (fun r e => (hr r e).2), q0t h.x5 hg (fun r e => (hr r e).2), q0t h.x6 hg (fun r e => (hr r e).2), q0t h.x7 hg (fun r e => (hr r e).2), q0t h.x8 hg (fun r e => (hr r e).2), ?_, low_own h.low hg (fun r e => (hr r e).1)⟩
 refine Kd.R_mono (Kd.R_grown (Kd.R_bound h.row) hg fun k hk e => ?_) (fun _ hk => hk.1)
 obtain ⟨_, _, _, q, _, cells, hc⟩ := hk
 obtain ⟨o, ho, hn⟩ := (hr k e.symm).2
 rw [hc] at ho
 injection ho with ho
 subst ho
 cases hn
theorem SB.push {W1 w1 : World} {v' : Value} {x : S28} (h : SB w wr bt a b r e v ok out) (hW1 : Below wr.heap.size wr W1) (hg : W1.grownBy w1 v.ownBlock) (hR : Kd.R k28 28 w1 w.heap.size ok v' (out ++ [x])) :
  SB w (w1.setCell ⟨w.heap.size + 1 + 1 + 1 + 1 + 1, 0, none⟩ v') bt a b r e v' ok (out ++ [x]) := by
 have g := h.below hW1
 have n3 := Kd.R_ne g.row g.x3 (by decide)
 have n4 := Kd.R_ne g.row g.x4 (by decide)
 have n5 := Kd.R_ne g.row g.x5 (by decide)
 have n6 := Kd.R_ne g.row g.x6 (by decide)
 have n7 := Kd.R_ne g.row g.x7 (by decide)
 have n8 := Kd.R_ne g.row g.x8 (by decide)
 have y8 := g.x8.grown hg n8
 exact ⟨(g.x3.grown hg n3).far (by dsimp only; omega) _, (g.x4.grown hg n4).far (by dsimp only; omega) _, (g.x5.grown hg n5).far (by dsimp only; omega) _, (g.x6.grown hg n6).far (by dsimp only; omega) _, (g.x7.grown hg n7).far (by dsimp only; omega) _, y8.set_ 0 _,
  Kd.R_set hR y8 (by intro q hq; rw [List.mem_singleton.1 hq]; decide) 0 _,
  (g.low.trans ((Below.refl _ W1).grown hg g.low.size (fun k e => Kd.R_base g.row k e))).setCell (p := ⟨w.heap.size + 1 + 1 + 1 + 1 + 1, 0, none⟩) (by show w.heap.size ≤ w.heap.size + 1 + 1 + 1 + 1 + 1; omega) _⟩
theorem SB.write (h : SB w wr bt a b r e v ok out) (r' : Value) (e' : Int) : SB w ((wr.setCell ⟨w.heap.size + 1 + 1 + 1, 0, none⟩ r').setCell ⟨w.heap.size + 1 + 1 + 1 + 1, 0, none⟩ (.int .i64 e')) bt a b r' e' v ok out := by
 refine ⟨?_, ?_, ?_, ?_, ?_, ?_, ?_, ?_⟩
 ·exact (h.x3.far (by dsimp only; omega) _).far (by dsimp only; omega) _
 ·exact (h.x4.far (by dsimp only; omega) _).far (by dsimp only; omega) _
 ·exact (h.x5.far (by dsimp only; omega) _).far (by dsimp only; omega) _
 ·exact (h.x6.set_ 0 _).far (by dsimp only; omega) _
 ·exact (h.x7.far (by dsimp only; omega) _).set_ 0 _
 ·exact (h.x8.far (by dsimp only; omega) _).far (by dsimp only; omega) _
 ·exact Kd.R_set (Kd.R_set h.row h.x6 (by intro q hq; rw [List.mem_singleton.1 hq]; decide) 0 _) (h.x7.far (by dsimp only; omega) _) (by intro q hq; rw [List.mem_singleton.1 hq]; decide) 0 _
 ·exact (h.low.setCell (p := ⟨w.heap.size + 1 + 1 + 1, 0, none⟩) (by show w.heap.size ≤ w.heap.size + 1 + 1 + 1; omega) _).setCell (p := ⟨w.heap.size + 1 + 1 + 1 + 1, 0, none⟩) (by show w.heap.size ≤ w.heap.size + 1 + 1 + 1 + 1; omega) _
end
theorem keeps_grown {W w1 : World} {B : Nat} {row : Option Nat} (hg : W.grownBy w1 row) (hr : ∀ k, row = some k → ∃ cells t, W.heap[k]? = some (.cells cells t (0, 0))) : KeepsFrom B W w1 :=
 ⟨hg.size, fun k o _ hk ho => (hg.block k (Array.getElem?_eq_some_iff.1 hk).1 (fun e => by
  obtain ⟨cells, t, hc⟩ := hr k e.symm
  rw [hc] at hk
  injection hk with hk
  subst hk
  cases ho)).trans hk⟩
theorem SI.push {w wr W1 w1 : World} {bt b1 b2 b4 : Nat} {key : ByteArray} {a b : ByteArray} {r : Value} {e : Int} {v v' : Value} {ok : Nat → Prop} {out : List S28} (g : SI w wr bt b1 b2 b4 key) (h : SB w wr bt a b r e v ok out) (hW1 : Below wr.heap.size wr W1) (hg : W1.grownBy w1 v.ownBlock) :
  SI w (w1.setCell ⟨w.heap.size + 1 + 1 + 1 + 1 + 1, 0, none⟩ v') bt b1 b2 b4 key := by
 have k := h.below hW1
 have g := g.below hW1
 have n1 := Kd.R_ne k.row g.x1 (by decide)
 have n2 := Kd.R_ne k.row g.x2 (by decide)
 have n4 := Kd.R_ne k.row g.x4 (by decide)
 have m1 : b1 ≠ w.heap.size + 1 + 1 + 1 + 1 + 1 := g.x1.ne_ k.x8 (by decide)
 have m2 : b2 ≠ w.heap.size + 1 + 1 + 1 + 1 + 1 := g.x2.ne_ k.x8 (by decide)
 have m4 : b4 ≠ w.heap.size + 1 + 1 + 1 + 1 + 1 := g.x4.ne_ k.x8 (by decide)
 exact ⟨(k.low.trans ((Below.refl _ W1).grown hg k.low.size (fun k' e => Kd.R_base k.row k' e))).setCell (p := ⟨w.heap.size + 1 + 1 + 1 + 1 + 1, 0, none⟩) (by show w.heap.size ≤ w.heap.size + 1 + 1 + 1 + 1 + 1; omega) _,
  (g.x1.grown hg n1).far m1 _, (g.x2.grown hg n2).far m2 _, (g.x4.grown hg n4).far m4 _⟩
theorem SB.new (w : World) (bt : Nat) (a b : ByteArray) :
  SB w ((((((w.alloc (.cells #[.pointer (some ⟨bt, 0, none⟩)] 23)).alloc (.cells #[.string a] 9)).alloc (.cells #[.string b] 9)).alloc (.cells #[.slice none 0 0] 32)).alloc (.cells #[.int .i64 0] 29)).alloc (.cells #[.slice none 0 0] 32)) bt a b (.slice none 0 0) 0 (.slice none 0 0) (fun _ => True) [] := by
 generalize h1 : w.alloc (.cells #[.pointer (some ⟨bt, 0, none⟩)] 23) = w1
 have e1 : w1.heap.size = w.heap.size + 1 := by rw [← h1]; simp
 have a3 : Blk w1 w.heap.size 23 #[.pointer (some ⟨bt, 0, none⟩)] := by rw [← h1]; exact Blk.new w _ _
 have b1 : Below w.heap.size w w1 := by rw [← h1]; exact (Below.refl _ w).alloc (Nat.le_refl _) _
 generalize h2 : w1.alloc (.cells #[.string a] 9) = w2
 have e2 : w2.heap.size = w.heap.size + 1 + 1 := by rw [← h2, World.size_alloc, e1]
 have a4 : Blk w2 (w.heap.size + 1) 9 #[.string a] := by rw [← h2, ← e1]; exact Blk.new w1 _ _
 have a3 : Blk w2 w.heap.size 23 #[.pointer (some ⟨bt, 0, none⟩)] := by rw [← h2]; exact a3.alloc _
 have b2 : Below w.heap.size w w2 := by rw [← h2]; exact b1.alloc b1.size _
 generalize h3 : w2.alloc (.cells #[.string b] 9) = w3
 have e3 : w3.heap.size = w.heap.size + 1 + 1 + 1 := by rw [← h3, World.size_alloc, e2]
 have a5 : Blk w3 (w.heap.size + 1 + 1) 9 #[.string b] := by rw [← h3, ← e2]; exact Blk.new w2 _ _
 have a3 : Blk w3 w.heap.size 23 #[.pointer (some ⟨bt, 0, none⟩)] := by rw [← h3]; exact a3.alloc _
 have a4 : Blk w3 (w.heap.size + 1) 9 #[.string a] := by rw [← h3]; exact a4.alloc _
 have b3 : Below w.heap.size w w3 := by rw [← h3]; exact b2.alloc b2.size _
 generalize h4 : w3.alloc (.cells #[.slice none 0 0] 32) = w4
 have e4 : w4.heap.size = w.heap.size + 1 + 1 + 1 + 1 := by rw [← h4, World.size_alloc, e3]
 have a6 : Blk w4 (w.heap.size + 1 + 1 + 1) 32 #[.slice none 0 0] := by rw [← h4, ← e3]; exact Blk.new w3 _ _
 have a3 : Blk w4 w.heap.size 23 #[.pointer (some ⟨bt, 0, none⟩)] := by rw [← h4]; exact a3.alloc _
 have a4 : Blk w4 (w.heap.size + 1) 9 #[.string a] := by rw [← h4]; exact a4.alloc _
 have a5 : Blk w4 (w.heap.size + 1 + 1) 9 #[.string b] := by rw [← h4]; exact a5.alloc _
 have b4 : Below w.heap.size w w4 := by rw [← h4]; exact b3.alloc b3.size _
 generalize h5 : w4.alloc (.cells #[.int .i64 0] 29) = w5
 have e5 : w5.heap.size = w.heap.size + 1 + 1 + 1 + 1 + 1 := by rw [← h5, World.size_alloc, e4]
 have a7 : Blk w5 (w.heap.size + 1 + 1 + 1 + 1) 29 #[.int .i64 0] := by rw [← h5, ← e4]; exact Blk.new w4 _ _
 have b5 : Below w.heap.size w w5 := by rw [← h5]; exact b4.alloc b4.size _
 have k5 : Below w4.heap.size w4 w5 := by rw [← h5]; exact (Below.refl _ _).alloc (Nat.le_refl _) _
 have a8 : Blk (w5.alloc (.cells #[.slice none 0 0] 32)) (w.heap.size + 1 + 1 + 1 + 1 + 1) 32 #[.slice none 0 0] := by rw [← e5]; exact Blk.new w5 _ _
 exact ⟨(a3.below k5 a3.lt).alloc _, (a4.below k5 a4.lt).alloc _, (a5.below k5 a5.lt).alloc _, (a6.below k5 a6.lt).alloc _, a7.alloc _, a8, Kd.R_nil _ _ _ _ _, b5.alloc b5.size _⟩
theorem drop_attach (pts : List PTable.Part) (g : PTable.Part → Bool) : (pts.attach.dropWhile (fun a => g a.1)).map (·.1) = pts.dropWhile g := by
 conv => rhs; rw [← List.attach_map_subtype_val pts]
 rw [List.dropWhile_map]
 rfl
theorem toB_eq (a : ByteArray) (k : List UInt8) : toB a (Txt.B k) = !PCode.lt k (L a) := by
 unfold toB
 rw [L_B]
theorem infoRow : (Try.prog.info? 28).map (fun i => (i.zero, i.size, i.bytes)) = some (some (.agg #[.string ⟨#[]⟩, .int .u64 0, .int .i64 0, .string ⟨#[]⟩]), 4, 48) := by kernel_rfl
theorem cells_new (W : World) (cs : Array Value) (t : TypeId) (j : Nat) (u : Value) (h : cs.toList[j]? = some u) : (W.alloc (.cells cs t)).cell? ((⟨W.heap.size, 0, none⟩ : Addr).add j) = some u := by
 have h1 := (Blk.new W t cs).cell j
 rw [show (⟨W.heap.size, 0, none⟩ : Addr).add j = ⟨W.heap.size, j, none⟩ by simp [Addr.add]; omega]
 rw [h1, ← h, Array.getElem?_toList]
theorem appendIn {F : Fence} {nF : Nat} {ops : Array Oper} {rest : List Oper} {o : Oper} {act : Act} {Q : Exit → Act → World → Prop} (hgd : o.guard = none) (s x : Operand) (ho : o.op = .call { callee := .builtin .append, args := #[s, x], argTypes := #[32, 32] })
  {W : World} {base : Nat} (v : Value) (xs : List S28) (p : S28) (ok : Nat → Prop) (hs : act.eval s = v) {N : Nat} (hx : act.eval x = .slice (some ⟨N, 0, none⟩) 1 1) (hN : N = W.heap.size) (hfresh : ∀ k, W.heap.size ≤ k → ok k) (HO : Kd.R k28 28 W base ok v xs) (hbase : base ≤ W.heap.size) (hl : xs.length ≤ 100000000)
  (h : ∀ v1 w1, Kd.R k28 28 w1 base ok v1 (xs ++ [p]) → (W.alloc (.cells #[.string p.f0, .int .u64 p.f1, .int .i64 p.f2, .string p.f3] 28)).grownBy w1 v.ownBlock → wpListIn F nF Try.prog ops Q rest (act.put o.dst v1) w1) :
  wpListIn F nF Try.prog ops Q (o :: rest) act (W.alloc (.cells #[.string p.f0, .int .u64 p.f1, .int .i64 p.f2, .string p.f3] 28)) := by
 subst hN
 obtain ⟨i0, hi, hz0, hz1, hz2⟩ := info_parts infoRow
 have HO2 := Kd.R_alloc HO (.cells #[.string p.f0, .int .u64 p.f1, .int .i64 p.f2, .string p.f3] 28)
 have hnew := cells_new W #[.string p.f0, .int .u64 p.f1, .int .i64 p.f2, .string p.f3] 28
 have hsz := World.size_alloc W (.cells #[.string p.f0, .int .u64 p.f1, .int .i64 p.f2, .string p.f3] 28)
 generalize W.alloc (.cells #[.string p.f0, .int .u64 p.f1, .int .i64 p.f2, .string p.f3] 28) = W1 at h HO2 hnew hsz ⊢
 obtain ⟨h0, inner, hown, hr⟩ := HO2
 have hm : maxLen = 9223372036854775807 := rfl
 refine wpListIn_append_own_at W1 hgd s x 32 ho base 28 i0 _ 4 48 Try.underlying32 hi hz0 hz1 hz2 rfl (by decide) v xs.length inner hs hown ⟨W.heap.size, 0, none⟩ 1 1 [.string p.f0, .int .u64 p.f1, .int .i64 p.f2, .string p.f3] hx rfl (fun j u hj => hnew j u hj) (by simp [Value.oneCell']) (by omega) (by omega) (by omega) ?_
 intro v1 w1 hown1 hg _ hat
 refine h v1 w1 (Kd.R_appended (okp := fun _ => False) h0 hr (k28_mkM _ _ _ p) (fun _ h => h.elim) (fun k hk => hfresh k (by omega)) hown1 hg ?_) hg
 rcases hat with hat | hat
 ·exact .inl hat
 ·exact .inr ⟨_, hat, Nat.le_refl _⟩
set_option maxRecDepth 100000 in
set_option maxHeartbeats 8000000 in
theorem Scan_any {w : World} {bt : Nat} {s f : ByteArray} {A : Option Addr} {c : Nat} {pts : List PTable.Part} (h : At w bt s f A c (pts.map partB)) (hs : s.size ≤ 262144) (hL : ∀ p ∈ pts, Lies s.size p) (hn : pts.length ≤ 10000) (a b : ByteArray) :
  Calls Try.prog 10 #[.pointer (some ⟨bt, 0, none⟩), .string a, .string b] w fun e w' => ∃ v, e = .returned (.tuple #[v, .int .i64 ((PTable.scan ⟨L s, L f, pts⟩ (L a) (L b)).2 : Nat)]) ∧ Kd.R k28 28 w' w.heap.size (fun _ => True) v ((PTable.scan ⟨L s, L f, pts⟩ (L a) (L b)).1.map rowB) ∧ Below w.heap.size w w' := by
 have HA := Lib.hid h
 have HL := Lib.hid hL
 clear h hL
 obtain ⟨i0, hi, hz0, hz1, hz2⟩ := info_parts infoRow
 refine (callsIn_wide (n := 6)).1 ?_
 have h1 : 1 ≤ 6 := by omega
 refine callsIn_of_wp_marks Try.func10 rfl trivial ?_ rfl
 simp only [Try.ntmps10, List.size_toArray, List.length_cons, List.length_nil, Nat.reduceAdd, Nat.reduceSub, Array.replicate_succ, Array.replicate_zero, List.push_toArray, List.append_toArray, List.nil_append, List.cons_append]
 refine wpIn_wide.2 ?_
 go_wp2_with fail
 have hb5 : Below w.heap.size w (((((w.alloc (.cells #[.pointer (some ⟨bt, 0, none⟩)] 23)).alloc (.cells #[.string a] 9)).alloc (.cells #[.string b] 9)).alloc (.cells #[.slice none 0 0] 32)).alloc (.cells #[.int .i64 0] 29)) := by
  refine Below.alloc (Below.alloc (Below.alloc (Below.alloc ((Below.refl _ w).alloc (Nat.le_refl _) _) ?_ _) ?_ _) ?_ _) ?_ _
  all_goals (simp only [World.size_alloc]; omega)
 refine ((HA.out.below_of hb5).open_).mono ?_
 clear hb5
 rintro e w' ⟨rfl, rfl⟩
 go_wp2_with fail
 refine (from_any _ _ _ _ _).mono ?_
 rintro e w4 ⟨rfl, rfl⟩
 go_wp2_with fail
 have g0 := SB.new w bt a b
 generalize hw9 : (((((w.alloc _).alloc _).alloc _).alloc _).alloc _).alloc _ = W9 at g0 ⊢
 have e9 : W9.heap.size = w.heap.size + 1 + 1 + 1 + 1 + 1 + 1 := by rw [← hw9]; simp only [World.size_alloc]
 clear hw9
 have y1 := Blk.new W9 23 #[.pointer (some ⟨bt, 0, none⟩)]
 have hx1 := (Below.refl W9.heap.size W9).alloc (Nat.le_refl _) (.cells #[.pointer (some ⟨bt, 0, none⟩)] 23)
 have g10 := g0.below hx1
 generalize hw10 : W9.alloc _ = W10 at y1 hx1 g10 ⊢
 have e10 : W10.heap.size = W9.heap.size + 1 := by rw [← hw10, World.size_alloc]
 have y2 := Blk.new W10 66 #[.func (.func 30) #[] #[.pointer (some ⟨w.heap.size + 1, 0, none⟩)]]
 have hx2 := (Below.refl W10.heap.size W10).alloc (Nat.le_refl _) (.cells #[.func (.func 30) #[] #[.pointer (some ⟨w.heap.size + 1, 0, none⟩)]] 66)
 have g11 := g10.below hx2
 have y1 := y1.below hx2 y1.lt
 rw [e10] at y2
 have gi : SI w (W10.alloc (.cells #[.func (.func 30) #[] #[.pointer (some ⟨w.heap.size + 1, 0, none⟩)]] 66)) bt W9.heap.size (W9.heap.size + 1) (w.heap.size + 1) a := ⟨g11.low, y1, y2, g11.x4⟩
 have hsz0 : W9.heap.size + 1 < (W10.alloc (.cells #[.func (.func 30) #[] #[.pointer (some ⟨w.heap.size + 1, 0, none⟩)]] 66)).heap.size := by rw [World.size_alloc, e10]; omega
 clear y1 y2 hx1 hx2 g10 hw10 e10
 rw [e9] at gi hsz0
 clear e9 g0
 generalize W10.alloc _ = W0 at g11 gi hsz0 ⊢
 refine (wpIn_wide (n := 6)).1 ?_
 have hA0 : At w bt s f A c (pts.attach.map (fun x => partB x.1)) := by rw [List.attach_map_val (f := partB)]; exact HA.out
 have hlen : pts.attach.length ≤ 1000000 := by rw [List.length_attach]; omega
 have hB0 : w.heap.size ≤ W0.heap.size := g11.low.size
 have hl8 : w.heap.size + 6 ≤ W0.heap.size := g11.x8.lt
 rename_i K0 a0
 have hS : PTable.scan ⟨L s, L f, pts⟩ (L a) (L b) = PTable.scanAt (L s) (L a) (L b) [] ((pts.attach.dropWhile (fun p => !toB a (partB p.1).f1)).map (·.1)) := by
  unfold PTable.scan
  dsimp only
  congr 1
  rw [← drop_attach]
  congr 2
  funext p
  rw [show (partB p.1).f1 = Txt.B p.1.last from rfl, toB_eq, Bool.not_not]
 have HS := Lib.hid hS
 clear hS
 have hrest : ∀ (D : Nat) (W : World) (v : Value) (rows : List PBlock.Row), W0.heap.size ≤ D → SB w W bt a b (.slice none 0 0) 0 v (fun _ => True) (rows.map rowB) → W.heap[D]? = some (.deferred (some [])) → PTable.scan ⟨L s, L f, pts⟩ (L a) (L b) = (rows, 0) →
   K0 { tmps := #[Value.pointer (some ⟨bt, 0, none⟩), Value.string a, Value.string b, Value.pointer (some ⟨w.heap.size, 0, none⟩), Value.pointer (some ⟨w.heap.size + 1, 0, none⟩), Value.pointer (some ⟨w.heap.size + 1 + 1, 0, none⟩), Value.pointer (some ⟨w.heap.size + 1 + 1 + 1, 0, none⟩), Value.pointer (some ⟨w.heap.size + 1 + 1 + 1 + 1, 0, none⟩), Value.pointer (some ⟨w.heap.size + 1 + 1 + 1 + 1 + 1, 0, none⟩), undef, undef, undef, undef, undef, Value.pointer (some ⟨bt, 0, none⟩), Value.bool false, Value.pointer (some ⟨bt, 0, none⟩), Value.func (Fn.func 30) #[] #[Value.pointer (some ⟨w.heap.size + 1, 0, none⟩)], Value.func (Fn.func 54) #[] #[Value.pointer (some ⟨w.heap.size + 1 + 1 + 1 + 1 + 1 + 1, 0, none⟩), Value.pointer (some ⟨w.heap.size + 1 + 1 + 1 + 1 + 1 + 1 + 1, 0, none⟩)], undef, undef, undef, undef, undef, undef, undef, undef, undef, undef, undef, undef, undef, undef, undef, undef, undef, undef, undef, undef, undef, undef, undef, undef, undef, undef, undef, undef, undef, undef, undef, undef, undef, undef, undef, undef, undef, undef, undef, undef, undef, undef, undef, undef], defers := [{ target := .collected D, args := #[] }] } W := by
  rintro D W v rows hD gb hK hG
  refine a0 _ _ ?_
  have gb1 := gb.write v 0
  have hK2 : ((W.setCell ⟨w.heap.size + 1 + 1 + 1, 0, none⟩ v).setCell ⟨w.heap.size + 1 + 1 + 1 + 1, 0, none⟩ (.int .i64 0)).heap[D]? = some (.deferred (some [])) := by
   rw [Below.heap_setCell _ _ _ _ (by show D ≠ w.heap.size + 1 + 1 + 1 + 1; omega), Below.heap_setCell _ _ _ _ (by show D ≠ w.heap.size + 1 + 1 + 1; omega)]
   exact hK
  obtain ⟨A5, c5, rfl⟩ := Kd.R_slice gb.row
  have HG := Lib.hid hG
  have HK2 := Lib.hid hK2
  have GB1 := Lib.hid gb1
  clear hG hK hK2 gb1
  have q6 := (gb.x6.cell 0).trans rfl
  have q7 := (gb.x7.cell 0).trans rfl
  have q8 := (gb.x8.cell 0).trans rfl
  have f6 := gb.x6.frozen 0
  have f7 := gb.x7.frozen 0
  have l6 := gb.x6.lt
  have l7 := gb.x7.lt
  have l8 := gb.x8.lt
  go_wp2_with fail
  clear q6 q7 q8 f6 f7 l6 l7 l8
  have hK2 := HK2.out
  have gb1 := GB1.out
  rw [List.length_map] at gb1 hK2
  generalize ((W.setCell ⟨w.heap.size + 1 + 1 + 1, 0, none⟩ (.slice A5 rows.length c5)).setCell ⟨w.heap.size + 1 + 1 + 1 + 1, 0, none⟩ (.int .i64 0)) = W9 at hK2 gb1 ⊢
  have gb2 := gb1.own (grownBy_putObj' W9 D (.deferred none)) (fun r e => by cases e; exact ⟨by omega, _, hK2, rfl⟩)
  have q6 := (gb2.x6.cell 0).trans rfl
  have q7 := (gb2.x7.cell 0).trans rfl
  refine ⟨by simp, .inl ⟨_, _, rfl, run_takeDeferred hK2, ?_⟩⟩
  refine ⟨.tuple #[.slice A5 rows.length c5, .int .i64 0], by simp [results, Try.results10, go_sem, q6, q7], .slice A5 rows.length c5, ?_, ?_, gb2.low⟩
  ·rw [HG.out]; rfl
  ·rw [HG.out]; exact gb2.row
 refine wpIn_rangeFunc_ownH (α := {p : PTable.Part // p ∈ pts}) rfl h1 (gf := 54) (lb := #[.pointer (some ⟨w.heap.size + 1 + 1 + 1 + 1 + 1 + 1, 0, none⟩), .pointer (some ⟨w.heap.size + 1 + 1 + 1 + 1 + 1 + 1 + 1, 0, none⟩)]) rfl trivial (enters_of Try.func54 (by kernel_rfl) rfl)
  (scan_stops (fun x : {p : PTable.Part // p ∈ pts} => partB x.1) pts.attach hlen (6 - 1) (by omega) bt (w.heap.size + 1 + 1 + 1 + 1 + 1 + 1) (w.heap.size + 1 + 1 + 1 + 1 + 1 + 1 + 1) (w.heap.size + 1) s f A c a w W0 hA0 gi) (fun h1 h2 v => h2 (h1 v))
  (fun W l o o' hl ho hc _ v => v.own (grownBy_putObj' W l o') (fun r e => by cases e; exact ⟨by omega, o, ho, hc⟩)) (Below.refl _ _) (fun _ => rfl)
  (fun pre W => ((∃ (v : Value) (rows : List PBlock.Row), SB w W bt a b (.slice none 0 0) 0 v (fun _ => True) (rows.map rowB) ∧ rows.length ≤ 1024 * pre.length ∧ (∀ rest, PTable.scanAt (L s) (L a) (L b) [] (pre.map (·.1) ++ rest) = PTable.scanAt (L s) (L a) (L b) rows rest)) ∧ SI w W bt (w.heap.size + 1 + 1 + 1 + 1 + 1 + 1) (w.heap.size + 1 + 1 + 1 + 1 + 1 + 1 + 1) (w.heap.size + 1) a) ∧ W0.heap.size ≤ W.heap.size)
  (fun cc pre W => (cc = .ret ∧ (∀ rest, PTable.scanAt (L s) (L a) (L b) [] (pre.map (·.1) ++ rest) = ([], 10)) ∧ ∃ (v : Value) (out : List S28), SB w W bt a b (.slice none 0 0) 10 v (fun _ => True) out) ∨ (cc = .exit 0 ∧ ∃ (v : Value) (rows : List PBlock.Row), (∀ rest, PTable.scanAt (L s) (L a) (L b) [] (pre.map (·.1) ++ rest) = (rows, 0)) ∧ SB w W bt a b (.slice none 0 0) 0 v (fun _ => True) (rows.map rowB)))
  ?hI ?hIx ⟨⟨⟨_, [], g11, Nat.zero_le _, fun _ => rfl⟩, gi⟩, Nat.le_refl _⟩
  (fun x a' W => ∃ Bx, W0.heap.size ≤ Bx ∧ Blk W Bx 65 #[.string (partB x.1).f0, .string (partB x.1).f1, .int .u64 (partB x.1).f2, .int .i64 (partB x.1).f3, .int .i64 (partB x.1).f4, .int .i64 (partB x.1).f5] ∧ a' = { tmps := #[Value.pointer (some ⟨bt, 0, none⟩), Value.string a, Value.string b, Value.pointer (some ⟨w.heap.size, 0, none⟩), Value.pointer (some ⟨w.heap.size + 1, 0, none⟩), Value.pointer (some ⟨w.heap.size + 1 + 1, 0, none⟩), Value.pointer (some ⟨w.heap.size + 1 + 1 + 1, 0, none⟩), Value.pointer (some ⟨w.heap.size + 1 + 1 + 1 + 1, 0, none⟩), Value.pointer (some ⟨w.heap.size + 1 + 1 + 1 + 1 + 1, 0, none⟩), Value.pointer (some ⟨Bx, 0, none⟩), undef, undef, undef, undef, Value.pointer (some ⟨bt, 0, none⟩), Value.bool false, Value.pointer (some ⟨bt, 0, none⟩), Value.func (Fn.func 30) #[] #[Value.pointer (some ⟨w.heap.size + 1, 0, none⟩)], Value.func (Fn.func 54) #[] #[Value.pointer (some ⟨w.heap.size + 1 + 1 + 1 + 1 + 1 + 1, 0, none⟩), Value.pointer (some ⟨w.heap.size + 1 + 1 + 1 + 1 + 1 + 1 + 1, 0, none⟩)], partV (partB x.1), undef, undef, undef, undef, undef, undef, undef, undef, undef, undef, undef, undef, undef, undef, undef, undef, undef, undef, undef, undef, undef, undef, undef, undef, undef, undef, undef, undef, undef, undef, undef, undef, undef, undef, undef, undef, undef, undef, undef, undef, undef, undef, undef], defers := [] }) ?hAx ?assign ?body ?done ?stop
 case hI => exact fun _ W W' row ⟨⟨⟨v, rows, h1, h2, h3⟩, h4⟩, h5⟩ hg hr => ⟨⟨⟨v, rows, h1.own hg (fun r e => ⟨Nat.le_trans hB0 (hr r e).1, (hr r e).2⟩), h2, h3⟩, h4.own hg (fun r e => ⟨Nat.le_trans hB0 (hr r e).1, (hr r e).2⟩)⟩, Nat.le_trans h5 hg.size⟩
 case hIx =>
  rintro cc pre W W' row (⟨h1, h2, v, out, h3⟩ | ⟨h1, v, rows, h2, h3⟩) hg hr
  ·exact .inl ⟨h1, h2, v, out, h3.own hg (fun r e => ⟨Nat.le_trans hB0 (hr r e).1, (hr r e).2⟩)⟩
  ·exact .inr ⟨h1, v, rows, h2, h3.own hg (fun r e => ⟨Nat.le_trans hB0 (hr r e).1, (hr r e).2⟩)⟩
 case hAx => exact fun x a' _ W W' row ⟨Bx, h1, h2, h3⟩ hg hr => ⟨Bx, h1, q0t h2 hg (fun r e => (hr r e).2), h3⟩
 case assign =>
  rintro l pre x W K ⟨⟨⟨v, rows, h1, h2, h3⟩, h4⟩, h5⟩ hK
  gi_wp2
  exact hK _ _ ((KeepsOthers.alloc _ _).from _) (fun v => v.below ((Below.refl _ _).alloc (Nat.le_refl _) _)) ⟨⟨⟨v, rows, h1.below ((Below.refl _ _).alloc (Nat.le_refl _) _), h2, h3⟩, h4.below ((Below.refl _ _).alloc (Nat.le_refl _) _)⟩, by rw [World.size_alloc]; omega⟩ ⟨W.heap.size, h5, Blk.new W _ _, rfl⟩
 case body =>
  rintro l pre x a' W hl ⟨rr, hr⟩ ⟨⟨⟨v, rows, gb, hrl, hco⟩, g⟩, hWs⟩ ⟨Bx, hBx, bX, rfl⟩ hlt
  have hAW := HA.out.below_of gb.low
  have RD := read_any hAW hs x.1 (HL.out x.1 x.2)
  have c5 := (gb.x5.cell 0).trans rfl
  have c3 := (gb.x3.cell 0).trans rfl
  have r0 := (bX.cell 0).trans rfl
  have r1 := (bX.cell 1).trans rfl
  have r2 := (bX.cell 2).trans rfl
  have r3 := (bX.cell 3).trans rfl
  have r4 := (bX.cell 4).trans rfl
  have r5 := (bX.cell 5).trans rfl
  have HCO := Lib.hid hco
  clear hco
  rw [List.length_attach] at hlt
  have hlb : PCode.lt x.1.first (L b) = Op.bytesLess (partB x.1).f0.toList b.toList := by
   rw [Print.L_toList, Print.L_toList]; rfl
  have hstep : ∀ rest, PTable.scanAt (L s) (L a) (L b) [] ((pre ++ [x]).map (·.1) ++ rest) = PTable.scanAt (L s) (L a) (L b) rows (x.1 :: rest) := fun rest => by
   rw [List.map_append, List.append_assoc]
   exact HCO.out _
  have hcase : (b.toList.isEmpty = false ∧ (b.toList = []) = False ∧ Op.bytesLess (partB x.1).f0.toList b.toList = false) ∨ (b = ⟨#[]⟩ ∧ ¬ (L b ≠ [] ∧ PCode.lt x.1.first (L b) = false)) ∨ (b.toList.isEmpty = false ∧ (b.toList = []) = False ∧ Op.bytesLess (partB x.1).f0.toList b.toList = true ∧ ¬ (L b ≠ [] ∧ PCode.lt x.1.first (L b) = false)) := by
   by_cases hbe : b = ⟨#[]⟩
   ·exact .inr (.inl ⟨hbe, fun h => h.1 (by rw [hbe])⟩)
   ·have hbn : L b ≠ [] := fun e => hbe (L_inj e)
    have hb1 : b.toList.isEmpty = false := by rw [Print.L_toList]; simpa using hbn
    have hb2 : (b.toList = []) = False := eq_false (by rw [Print.L_toList]; exact hbn)
    cases hlo : Op.bytesLess (partB x.1).f0.toList b.toList with
    | false => exact .inl ⟨hb1, hb2, rfl⟩
    | true => exact .inr (.inr ⟨hb1, hb2, rfl, fun h => by rw [hlb, hlo] at h; cases h.2⟩)
  rcases hcase with ⟨hb1, hb2, hlo⟩ | hcase
  ·rw [hlo] at hlb
   have hbn : L b ≠ [] := by rw [← Print.L_toList]; exact fun e => by rw [e] at hb1; cases hb1
   gi_wp2_with (fail)
   refine ⟨KeepsFrom.refl _ _, .inr ⟨rfl, v, rows, fun rest => ?_, gb⟩⟩
   refine (hstep rest).trans ?_
   rw [PTable.scanAt, if_pos ⟨hbn, hlb⟩]
  have hgo : ∀ rest, PTable.scanAt (L s) (L a) (L b) [] ((pre ++ [x]).map (·.1) ++ rest) = match PTable.readT (L s) x.1 with
    | none => ([], 10)
    | some y => PTable.scanAt (L s) (L a) (L b) (rows ++ y.filter (fun r => PTable.within (L a) (L b) r.key)) rest := fun rest => by
   rw [hstep, PTable.scanAt, if_neg (by rcases hcase with h | h; exact h.2; exact h.2.2.2)]
   cases PTable.readT (L s) x.1 <;> rfl
  clear hstep hlb
  cases hrd : PTable.readT (L s) x.1 with
  | none =>
   rw [hrd] at RD hgo
   have RDH := Lib.hid RD
   have HGO := Lib.hid hgo
   clear RD hgo hrd
   rcases hcase with ⟨rfl, _⟩ | ⟨hb1, hb2, hlo, _⟩
   all_goals
    gi_wp2_with (refine ⟨trivial, ?_⟩; gi_at_call 29; refine (CallsIn.inRound l (callsIn_wide.2 RDH.out)).mono ?_; rintro e w5 ⟨rfl, hb⟩; have gb5 := gb.below hb; have q6 := (gb5.x6.cell 0).trans rfl; have q7 := (gb5.x7.cell 0).trans rfl; have f6 := gb5.x6.frozen 0; have f7 := gb5.x7.frozen 0; have l6 := gb5.x6.lt; have l7 := gb5.x7.lt)
    have hKF : KeepsFrom W0.heap.size W ((w5.setCell ⟨w.heap.size + 1 + 1 + 1, 0, none⟩ (.slice none 0 0)).setCell ⟨w.heap.size + 1 + 1 + 1 + 1, 0, none⟩ (.int .i64 10)) :=
     (q15 hb).trans (((KeepsOthers.setCell _ _ _).from _).trans ((KeepsOthers.setCell _ _ _).from _))
    exact ⟨hKF, .inl ⟨rfl, HGO.out, v, _, gb5.write (.slice none 0 0) 10⟩⟩
  | some rl =>
   rw [hrd] at RD hgo
   have RDH := Lib.hid RD
   have HGO := Lib.hid hgo
   have hrn : rl.length ≤ 1024 := by have h1 := readT_len hrd; have h2 := (HL.out x.1 x.2).rows; omega
   clear RD hgo hrd
   rcases hcase with ⟨hbe, _⟩ | ⟨hb1, hb2, hlo, _⟩
   ·have hb1 : b.toList.isEmpty = true := by rw [Print.L_toList, hbe]; rfl
    gi_wp2_with (refine ⟨trivial, ?_⟩; gi_at_call 29; refine (CallsIn.inRound l (callsIn_wide.2 RDH.out)).mono ?_; rintro e w5 ⟨⟨v5, rfl, hR⟩, hb⟩; obtain ⟨A5, cx5, rfl, hcx5, hC5⟩ := Kd.R_reads hR; rw [List.length_map] at hcx5 hC5 hR; have HR5 := Lib.hid hR; clear hC5 hR; clear RDH; rw [List.length_map])
    have hR5 : Kd.R k28 28 w5 W.heap.size (fun k => W.heap.size ≤ k ∧ k < w5.heap.size) (.slice A5 rl.length cx5) (rl.map rowB) := Kd.R_mono (Kd.R_bound HR5.out) (fun k hk => ⟨hk.2.1, hk.2.2.1⟩)
    have gb5 : SB w w5 bt a b (.slice none 0 0) 0 v (fun k => ¬ (W.heap.size ≤ k ∧ k < w5.heap.size)) (rows.map rowB) := (gb.narrow.below hb).some_ (fun k hk => by omega)
    have g5 := g.below hb
    clear r0 r1 r2 r3 r4 r5 c3 c5 HR5
    gi_loopw [39] (fun v39 wr => ∃ (i : Nat) (v' : Value), i ≤ rl.length ∧ v39 = .int .i64 i ∧ SB w wr bt a b (.slice none 0 0) 0 v' (fun k => ¬ (W.heap.size ≤ k ∧ k < w5.heap.size)) ((rows ++ (rl.take i).filter (fun r => PTable.within (L a) (L b) r.key)).map rowB) ∧ SI w wr bt (w.heap.size + 1 + 1 + 1 + 1 + 1 + 1) (w.heap.size + 1 + 1 + 1 + 1 + 1 + 1 + 1) (w.heap.size + 1) a ∧ KeepsFrom W0.heap.size W wr ∧ Kd.R k28 28 wr W.heap.size (fun k => W.heap.size ≤ k ∧ k < w5.heap.size) (.slice A5 rl.length cx5) (rl.map rowB) ∧ w5.heap.size ≤ wr.heap.size) (fun v39 _ => rl.length - (intOf v39).toNat)
    case atStart => exact ⟨0, v, by omega, rfl, by rw [List.take_zero, List.filter_nil, List.append_nil]; exact gb5, g5, q15 hb, hR5, Nat.le_refl _⟩
    case round =>
     obtain ⟨i, v', hi', rfl, gbr, gr, hKF, hRr, hws⟩ := hrel
     by_cases hlt2 : i < rl.length
     ·have t1 : ((i : Int) < (rl.length : Int)) = True := eq_true (by omega)
      have HRr := Lib.hid hRr
      have hCr := (Kd.R_reads' hRr).2.2
      rw [List.length_map] at hCr
      obtain ⟨ad, hAd, k0, k1, k2, k3⟩ := q1d hCr (i : Int) (by omega) (by omega)
      subst hAd
      have ek : q0f (rl.map rowB) (i : Int) = rowB rl[i] := by
       rw [at_S28 (rl.map rowB) i (by rw [List.length_map]; exact hlt2), List.getElem_map]
      rw [ek, Int.toNat_natCast] at k0 k1 k2 k3
      have hta : rl.take (i + 1) = rl.take i ++ [rl[i]] := List.take_succ_eq_append_getElem hlt2
      have hfl : ((rl.take i).filter (fun r => PTable.within (L a) (L b) r.key)).length ≤ i := Nat.le_trans (List.length_filter_le _ _) (by rw [List.length_take]; omega)
      have HTA := Lib.hid hta
      clear hta ek hCr hRr
      generalize rl[i] = ro at k0 k1 k2 k3 HTA
      obtain ⟨qq, hqq⟩ : ∃ qq, rowB ro = qq := ⟨_, rfl⟩
      have hk' : PTable.within (L a) (L b) ro.key = (!Op.bytesLess qq.f0.toList a.toList && (b.toList.isEmpty || Op.bytesLess qq.f0.toList b.toList)) := by
       rw [← hqq]
       unfold PTable.within rowB
       rw [Print.L_toList, Print.L_toList, Print.L_toList]
       congr 1
       cases L b <;> rfl
      rw [hqq] at k0 k1 k2 k3
      have HK := Lib.hid hk'
      have HQQ := Lib.hid hqq
      clear hk' hqq
      have hbx := (Below.refl wr.heap.size wr).alloc (Nat.le_refl _) (.cells #[.string qq.f0, .int .u64 qq.f1, .int .i64 qq.f2, .string qq.f3] 28)
      have BR := Blk.new wr 28 #[.string qq.f0, .int .u64 qq.f1, .int .i64 qq.f2, .string qq.f3]
      have gb7 := gbr.below hbx
      have g7 := gr.below hbx
      have hR7 := Lib.hid (Kd.R_below HRr.out hbx)
      have c4 := (gb7.x4.cell 0).trans rfl
      have c5 := (gb7.x5.cell 0).trans rfl
      have c8 := (gb7.x8.cell 0).trans rfl
      have f8 := gb7.x8.frozen 0
      have l8 := gb7.x8.lt
      have d0 := (BR.cell 0).trans rfl
      have d1 := (BR.cell 1).trans rfl
      have d2 := (BR.cell 2).trans rfl
      have d3 := (BR.cell 3).trans rfl
      cases hge : Op.bytesLess qq.f0.toList a.toList with
      | true =>
       have hin : PTable.within (L a) (L b) ro.key = false := by rw [HK.out, hge]; rfl
       have hout : (rl.take (i + 1)).filter (fun r => PTable.within (L a) (L b) r.key) = (rl.take i).filter (fun r => PTable.within (L a) (L b) r.key) := by
        rw [HTA.out, List.filter_append, List.filter_cons, hin]
        simp
       have HOUT := Lib.hid hout
       clear hout HK HQQ
       obtain ⟨A6, c6, hv6⟩ := Kd.R_slice gb7.row
       gi_wp2_with (fail)
       go_roundw
       case rel => exact ⟨i + 1, v', by omega, by go_num, by rw [HOUT.out]; exact gb7, g7, hKF.trans (q15 hbx), hR7.out, Nat.le_trans hws hbx.size⟩
       case measure => simp [intOf]; omega
      | false =>
       have hin : PTable.within (L a) (L b) ro.key = true := by rw [HK.out, hge, hb1]; rfl
       have hout : (rows ++ (rl.take (i + 1)).filter (fun r => PTable.within (L a) (L b) r.key)).map rowB = (rows ++ (rl.take i).filter (fun r => PTable.within (L a) (L b) r.key)).map rowB ++ [qq] := by
        rw [HTA.out, List.filter_append, List.filter_cons, hin, ← List.append_assoc, List.map_append]
        rw [← HQQ.out]
        rfl
       have hln : ((rows ++ (rl.take i).filter (fun r => PTable.within (L a) (L b) r.key)).map rowB).length ≤ 100000000 := by
        rw [List.length_map, List.length_append]
        omega
       have HOUT := Lib.hid hout
       clear hout hfl HK HQQ
       obtain ⟨A6, c6, rfl⟩ := Kd.R_slice gb7.row
       have HGB7 := Lib.hid gb7
       have HG7 := Lib.hid g7
       generalize hOO : (rows ++ (rl.take i).filter (fun r => PTable.within (L a) (L b) r.key)).map rowB = oo at *
       clear gb7 g7 gbr gr
       gi_wp2_with (gi_at_builtin; refine appendIn rfl (.tmp 57) (.tmp 59) rfl (.slice _ oo.length c6) oo qq _ rfl rfl (by rw [World.size_alloc]) (fun k hk hk2 => by have := hbx.size; omega) HGB7.out.row HGB7.out.low.size hln ?_; intro v1 w1 hR1 hg1; have y8 := (HGB7.out.x8.alloc (.cells #[.string qq.f0, .int .u64 qq.f1, .int .i64 qq.f2, .string qq.f3] 28)).grown hg1 (Kd.R_ne (Kd.R_alloc HGB7.out.row (.cells #[.string qq.f0, .int .u64 qq.f1, .int .i64 qq.f2, .string qq.f3] 28)) (HGB7.out.x8.alloc (.cells #[.string qq.f0, .int .u64 qq.f1, .int .i64 qq.f2, .string qq.f3] 28)) (by decide)); obtain ⟨A1, c1, rfl⟩ := Kd.R_slice hR1; have e8 := (y8.cell 0).trans rfl; have f9 := y8.frozen 0; have l9 := y8.lt)
       rw [show (oo ++ [qq]).length = oo.length + 1 by simp] at hR1
       go_roundw
       case rel =>
        have hal := (Below.refl _ (wr.alloc (.cells #[.string qq.f0, .int .u64 qq.f1, .int .i64 qq.f2, .string qq.f3] 28))).alloc (Nat.le_refl _) (.cells #[.string qq.f0, .int .u64 qq.f1, .int .i64 qq.f2, .string qq.f3] 28)
        have hp := HGB7.out.push hal hg1 hR1
        have hq := HG7.out.push (v' := .slice A1 (oo.length + 1) c1) HGB7.out hal hg1
        have hrr := Kd.R_mono (Kd.R_set (Kd.R_grown (Kd.R_alloc hR7.out (.cells #[.string qq.f0, .int .u64 qq.f1, .int .i64 qq.f2, .string qq.f3] 28)) hg1 (fun k hk e => HGB7.out.row.1 k e.symm hk)) y8 (by intro q hq; rw [List.mem_singleton.1 hq]; decide) 0 (.slice A1 (oo.length + 1) c1)) (fun _ hk => hk)
        have hsz := hg1.size
        rw [World.size_alloc, World.size_alloc] at hsz
        have hkk : KeepsFrom W0.heap.size W (w1.setCell ⟨w.heap.size + 1 + 1 + 1 + 1 + 1, 0, none⟩ (.slice A1 (oo.length + 1) c1)) :=
         (hKF.trans ((q15 hbx).trans (q15 hal))).trans ((keeps_grown hg1 (fun k hk => by
          obtain ⟨cells, hc⟩ := Kd.R_typed (Kd.R_alloc HGB7.out.row (.cells #[.string qq.f0, .int .u64 qq.f1, .int .i64 qq.f2, .string qq.f3] 28)) k hk
          exact ⟨cells, _, hc⟩)).trans ((KeepsOthers.setCell _ _ _).from _))
        exact ⟨i + 1, _, by omega, by go_num, by rw [HOUT.out]; exact hp, hq, hkk, hrr, by rw [World.size_setCell]; omega⟩
       case measure => simp [intOf]; omega
     ·have t1 : ((i : Int) < (rl.length : Int)) = False := eq_false (by omega)
      obtain rfl : i = rl.length := by omega
      rw [List.take_length] at gbr
      gi_wp2_with (fail)
      refine ⟨hKF, fun _ => gr, ⟨⟨⟨v', _, gbr.wide, ?_, HGO.out⟩, gr⟩, Nat.le_trans hWs hKF.size⟩⟩
      have hfl : (rl.filter (fun r => PTable.within (L a) (L b) r.key)).length ≤ rl.length := List.length_filter_le _ _
      rw [List.length_append, List.length_append, List.length_singleton]
      omega
   ·skip
    gi_wp2_with (refine ⟨trivial, ?_⟩; gi_at_call 29; refine (CallsIn.inRound l (callsIn_wide.2 RDH.out)).mono ?_; rintro e w5 ⟨⟨v5, rfl, hR⟩, hb⟩; obtain ⟨A5, cx5, rfl, hcx5, hC5⟩ := Kd.R_reads hR; rw [List.length_map] at hcx5 hC5 hR; have HR5 := Lib.hid hR; clear hC5 hR; clear RDH; rw [List.length_map])
    have hR5 : Kd.R k28 28 w5 W.heap.size (fun k => W.heap.size ≤ k ∧ k < w5.heap.size) (.slice A5 rl.length cx5) (rl.map rowB) := Kd.R_mono (Kd.R_bound HR5.out) (fun k hk => ⟨hk.2.1, hk.2.2.1⟩)
    have gb5 : SB w w5 bt a b (.slice none 0 0) 0 v (fun k => ¬ (W.heap.size ≤ k ∧ k < w5.heap.size)) (rows.map rowB) := (gb.narrow.below hb).some_ (fun k hk => by omega)
    have g5 := g.below hb
    clear r0 r1 r2 r3 r4 r5 c3 c5 HR5
    gi_loopw [39] (fun v39 wr => ∃ (i : Nat) (v' : Value), i ≤ rl.length ∧ v39 = .int .i64 i ∧ SB w wr bt a b (.slice none 0 0) 0 v' (fun k => ¬ (W.heap.size ≤ k ∧ k < w5.heap.size)) ((rows ++ (rl.take i).filter (fun r => PTable.within (L a) (L b) r.key)).map rowB) ∧ SI w wr bt (w.heap.size + 1 + 1 + 1 + 1 + 1 + 1) (w.heap.size + 1 + 1 + 1 + 1 + 1 + 1 + 1) (w.heap.size + 1) a ∧ KeepsFrom W0.heap.size W wr ∧ Kd.R k28 28 wr W.heap.size (fun k => W.heap.size ≤ k ∧ k < w5.heap.size) (.slice A5 rl.length cx5) (rl.map rowB) ∧ w5.heap.size ≤ wr.heap.size) (fun v39 _ => rl.length - (intOf v39).toNat)
    case atStart => exact ⟨0, v, by omega, rfl, by rw [List.take_zero, List.filter_nil, List.append_nil]; exact gb5, g5, q15 hb, hR5, Nat.le_refl _⟩
    case round =>
     obtain ⟨i, v', hi', rfl, gbr, gr, hKF, hRr, hws⟩ := hrel
     by_cases hlt2 : i < rl.length
     ·have t1 : ((i : Int) < (rl.length : Int)) = True := eq_true (by omega)
      have HRr := Lib.hid hRr
      have hCr := (Kd.R_reads' hRr).2.2
      rw [List.length_map] at hCr
      obtain ⟨ad, hAd, k0, k1, k2, k3⟩ := q1d hCr (i : Int) (by omega) (by omega)
      subst hAd
      have ek : q0f (rl.map rowB) (i : Int) = rowB rl[i] := by
       rw [at_S28 (rl.map rowB) i (by rw [List.length_map]; exact hlt2), List.getElem_map]
      rw [ek, Int.toNat_natCast] at k0 k1 k2 k3
      have hta : rl.take (i + 1) = rl.take i ++ [rl[i]] := List.take_succ_eq_append_getElem hlt2
      have hfl : ((rl.take i).filter (fun r => PTable.within (L a) (L b) r.key)).length ≤ i := Nat.le_trans (List.length_filter_le _ _) (by rw [List.length_take]; omega)
      have HTA := Lib.hid hta
      clear hta ek hCr hRr
      generalize rl[i] = ro at k0 k1 k2 k3 HTA
      obtain ⟨qq, hqq⟩ : ∃ qq, rowB ro = qq := ⟨_, rfl⟩
      have hk' : PTable.within (L a) (L b) ro.key = (!Op.bytesLess qq.f0.toList a.toList && (b.toList.isEmpty || Op.bytesLess qq.f0.toList b.toList)) := by
       rw [← hqq]
       unfold PTable.within rowB
       rw [Print.L_toList, Print.L_toList, Print.L_toList]
       congr 1
       cases L b <;> rfl
      rw [hqq] at k0 k1 k2 k3
      have HK := Lib.hid hk'
      have HQQ := Lib.hid hqq
      clear hk' hqq
      have hbx := (Below.refl wr.heap.size wr).alloc (Nat.le_refl _) (.cells #[.string qq.f0, .int .u64 qq.f1, .int .i64 qq.f2, .string qq.f3] 28)
      have BR := Blk.new wr 28 #[.string qq.f0, .int .u64 qq.f1, .int .i64 qq.f2, .string qq.f3]
      have gb7 := gbr.below hbx
      have g7 := gr.below hbx
      have hR7 := Lib.hid (Kd.R_below HRr.out hbx)
      have c4 := (gb7.x4.cell 0).trans rfl
      have c5 := (gb7.x5.cell 0).trans rfl
      have c8 := (gb7.x8.cell 0).trans rfl
      have f8 := gb7.x8.frozen 0
      have l8 := gb7.x8.lt
      have d0 := (BR.cell 0).trans rfl
      have d1 := (BR.cell 1).trans rfl
      have d2 := (BR.cell 2).trans rfl
      have d3 := (BR.cell 3).trans rfl
      cases hge : Op.bytesLess qq.f0.toList a.toList with
      | true =>
       have hin : PTable.within (L a) (L b) ro.key = false := by rw [HK.out, hge]; rfl
       have hout : (rl.take (i + 1)).filter (fun r => PTable.within (L a) (L b) r.key) = (rl.take i).filter (fun r => PTable.within (L a) (L b) r.key) := by
        rw [HTA.out, List.filter_append, List.filter_cons, hin]
        simp
       have HOUT := Lib.hid hout
       clear hout HK HQQ
       obtain ⟨A6, c6, hv6⟩ := Kd.R_slice gb7.row
       gi_wp2_with (fail)
       go_roundw
       case rel => exact ⟨i + 1, v', by omega, by go_num, by rw [HOUT.out]; exact gb7, g7, hKF.trans (q15 hbx), hR7.out, Nat.le_trans hws hbx.size⟩
       case measure => simp [intOf]; omega
      | false =>
       cases hlo2 : Op.bytesLess qq.f0.toList b.toList with
       | true =>
        have hin : PTable.within (L a) (L b) ro.key = true := by rw [HK.out, hge, hb1, hlo2]; rfl
        have hout : (rows ++ (rl.take (i + 1)).filter (fun r => PTable.within (L a) (L b) r.key)).map rowB = (rows ++ (rl.take i).filter (fun r => PTable.within (L a) (L b) r.key)).map rowB ++ [qq] := by
         rw [HTA.out, List.filter_append, List.filter_cons, hin, ← List.append_assoc, List.map_append]
         rw [← HQQ.out]
         rfl
        have hln : ((rows ++ (rl.take i).filter (fun r => PTable.within (L a) (L b) r.key)).map rowB).length ≤ 100000000 := by
         rw [List.length_map, List.length_append]
         omega
        have HOUT := Lib.hid hout
        clear hout hfl HK HQQ
        obtain ⟨A6, c6, rfl⟩ := Kd.R_slice gb7.row
        have HGB7 := Lib.hid gb7
        have HG7 := Lib.hid g7
        generalize hOO : (rows ++ (rl.take i).filter (fun r => PTable.within (L a) (L b) r.key)).map rowB = oo at *
        clear gb7 g7 gbr gr
        gi_wp2_with (gi_at_builtin; refine appendIn rfl (.tmp 57) (.tmp 59) rfl (.slice _ oo.length c6) oo qq _ rfl rfl (by rw [World.size_alloc]) (fun k hk hk2 => by have := hbx.size; omega) HGB7.out.row HGB7.out.low.size hln ?_; intro v1 w1 hR1 hg1; have y8 := (HGB7.out.x8.alloc (.cells #[.string qq.f0, .int .u64 qq.f1, .int .i64 qq.f2, .string qq.f3] 28)).grown hg1 (Kd.R_ne (Kd.R_alloc HGB7.out.row (.cells #[.string qq.f0, .int .u64 qq.f1, .int .i64 qq.f2, .string qq.f3] 28)) (HGB7.out.x8.alloc (.cells #[.string qq.f0, .int .u64 qq.f1, .int .i64 qq.f2, .string qq.f3] 28)) (by decide)); obtain ⟨A1, c1, rfl⟩ := Kd.R_slice hR1; have e8 := (y8.cell 0).trans rfl; have f9 := y8.frozen 0; have l9 := y8.lt)
        rw [show (oo ++ [qq]).length = oo.length + 1 by simp] at hR1
        go_roundw
        case rel =>
         have hal := (Below.refl _ (wr.alloc (.cells #[.string qq.f0, .int .u64 qq.f1, .int .i64 qq.f2, .string qq.f3] 28))).alloc (Nat.le_refl _) (.cells #[.string qq.f0, .int .u64 qq.f1, .int .i64 qq.f2, .string qq.f3] 28)
         have hp := HGB7.out.push hal hg1 hR1
         have hq := HG7.out.push (v' := .slice A1 (oo.length + 1) c1) HGB7.out hal hg1
         have hrr := Kd.R_mono (Kd.R_set (Kd.R_grown (Kd.R_alloc hR7.out (.cells #[.string qq.f0, .int .u64 qq.f1, .int .i64 qq.f2, .string qq.f3] 28)) hg1 (fun k hk e => HGB7.out.row.1 k e.symm hk)) y8 (by intro q hq; rw [List.mem_singleton.1 hq]; decide) 0 (.slice A1 (oo.length + 1) c1)) (fun _ hk => hk)
         have hsz := hg1.size
         rw [World.size_alloc, World.size_alloc] at hsz
         have hkk : KeepsFrom W0.heap.size W (w1.setCell ⟨w.heap.size + 1 + 1 + 1 + 1 + 1, 0, none⟩ (.slice A1 (oo.length + 1) c1)) :=
          (hKF.trans ((q15 hbx).trans (q15 hal))).trans ((keeps_grown hg1 (fun k hk => by
           obtain ⟨cells, hc⟩ := Kd.R_typed (Kd.R_alloc HGB7.out.row (.cells #[.string qq.f0, .int .u64 qq.f1, .int .i64 qq.f2, .string qq.f3] 28)) k hk
           exact ⟨cells, _, hc⟩)).trans ((KeepsOthers.setCell _ _ _).from _))
         exact ⟨i + 1, _, by omega, by go_num, by rw [HOUT.out]; exact hp, hq, hkk, hrr, by rw [World.size_setCell]; omega⟩
        case measure => simp [intOf]; omega
       | false =>
        have hin : PTable.within (L a) (L b) ro.key = false := by rw [HK.out, hge, hb1, hlo2]; rfl
        have hout : (rl.take (i + 1)).filter (fun r => PTable.within (L a) (L b) r.key) = (rl.take i).filter (fun r => PTable.within (L a) (L b) r.key) := by
         rw [HTA.out, List.filter_append, List.filter_cons, hin]
         simp
        have HOUT := Lib.hid hout
        clear hout HK HQQ
        obtain ⟨A6, c6, hv6⟩ := Kd.R_slice gb7.row
        gi_wp2_with (fail)
        go_roundw
        case rel => exact ⟨i + 1, v', by omega, by go_num, by rw [HOUT.out]; exact gb7, g7, hKF.trans (q15 hbx), hR7.out, Nat.le_trans hws hbx.size⟩
        case measure => simp [intOf]; omega
     ·have t1 : ((i : Int) < (rl.length : Int)) = False := eq_false (by omega)
      obtain rfl : i = rl.length := by omega
      rw [List.take_length] at gbr
      gi_wp2_with (fail)
      refine ⟨hKF, fun _ => gr, ⟨⟨⟨v', _, gbr.wide, ?_, HGO.out⟩, gr⟩, Nat.le_trans hWs hKF.size⟩⟩
      have hfl : (rl.filter (fun r => PTable.within (L a) (L b) r.key)).length ≤ rl.length := List.length_filter_le _ _
      rw [List.length_append, List.length_append, List.length_singleton]
      omega
 case done =>
  rintro D xs W hD hxs ⟨⟨⟨v, rows, h1, h2, h3⟩, h4⟩, h5⟩ hK
  refine hrest D W v rows hD h1 hK ?_
  rw [HS.out, ← hxs]
  have := h3 []
  rw [List.append_nil] at this
  rw [this]
  rfl
 case stop =>
  rintro D cc pre W hD ⟨_, rr, hr⟩ (⟨rfl, h2, v, out, gb⟩ | ⟨rfl, v, rows, h2, gb⟩) hK
  ·refine wpIn_ret ?_
   have gb2 := gb.own (grownBy_putObj' W D (.deferred none)) (fun r e => by cases e; exact ⟨by omega, _, hK, rfl⟩)
   have q6 := (gb2.x6.cell 0).trans rfl
   have q7 := (gb2.x7.cell 0).trans rfl
   have hS : PTable.scan ⟨L s, L f, pts⟩ (L a) (L b) = ([], 10) := by rw [HS.out, hr, List.map_append]; exact h2 _
   have HSS := Lib.hid hS
   clear hS
   refine ⟨by simp, .inl ⟨_, _, rfl, run_takeDeferred hK, ?_⟩⟩
   refine ⟨.tuple #[.slice none 0 0, .int .i64 10], by simp [results, Try.results10, go_sem, q6, q7], .slice none 0 0, ?_, ?_, gb2.low⟩
   ·rw [HSS.out]; rfl
   ·rw [HSS.out]; exact Kd.R_nil _ _ _ _ _
  ·gi_wp2
   refine hrest D W v rows hD gb hK ?_
   rw [HS.out, hr, List.map_append]
   exact h2 _
end Go.Proofs.Ytaigmemmgjlhgaa.Tab
-- TabT
namespace Go.Proofs.Ytaigmemmgjlhgaa.Tab
open Go.RowKit Aid Txt Print PLink Block Bits Go.Proofs.YtaigmemmgjlhgaaW.PrintWords
theorem rowB_rowS (x : S28) (h : Fit x) : rowB (rowS x) = x := by
 have h0 := h.s0
 cases x
 unfold rowB rowS
 dsimp only
 rw [B_L, B_L, Int.toNat_of_nonneg h0]
def filt (l : List S28) (Q : Int) : List UInt8 := Bloom.filter Q.toNat (keysB l l.length)
def tab (l : List S28) (B R Q : Int) : List UInt8 × Nat := PTable.table (l.map rowS) B R Q (filt l Q)
def tabT (l : List S28) (B R Q : Int) : PTable.Tab := ⟨(tab l B R Q).1, filt l Q, PTable.partsW R 0 (PTable.chunks (l.map rowS) B R)⟩
theorem keysB_length (l : List S28) : (keysB l l.length).length ≤ l.length := by
 unfold keysB
 rw [List.length_map]
 exact PTable.keysTo_length _ _
theorem filt_length (l : List S28) (Q : Int) (hl : l.length ≤ 400) (hQ : Q ≤ 32) : (filt l Q).length ≤ 1601 := by
 unfold filt
 rw [Bloom.filter_length]
 have h1 := keysB_length l
 have := Bloom.width_hi (keysB l l.length).length Q.toNat (by omega) (by omega)
 omega
structure Built (l : List S28) (B R Q : Int) : Prop where
 rt : PTable.right (l.map rowS) B R Q = 0
 idx : (PBlock.build (PTable.index R (PTable.chunks (l.map rowS) B R)) 1).2 = 0
 len : (PTable.whole R (PTable.chunks (l.map rowS) B R) (filt l Q)).length ≤ 262144
 txt : (tab l B R Q).1 = PTable.whole R (PTable.chunks (l.map rowS) B R) (filt l Q)
 few : l.length ≤ 400
theorem built_of {l : List S28} {B R Q : Int} (hl : l.length ≤ 400) (h : (tab l B R Q).2 = 0) : Built l B R Q := by
 have hr : PTable.right (l.map rowS) B R Q = 0 := by
  unfold tab PTable.table at h
  split at h
  ·exact h
  ·rename_i hn
   exact Classical.byContradiction hn
 have hb : ¬ ((PBlock.build (PTable.index R (PTable.chunks (l.map rowS) B R)) 1).2 ≠ 0 ∨ 262144 < (PTable.whole R (PTable.chunks (l.map rowS) B R) (filt l Q)).length) := by
  intro hb
  unfold tab at h
  rw [table_big hr hb] at h
  cases h
 refine ⟨hr, Classical.byContradiction fun e => hb (.inl e), Nat.le_of_not_lt fun e => hb (.inr e), ?_, hl⟩
 unfold tab PTable.table
 rw [if_neg (by rw [hr]; simp), if_neg hb]
section
variable {l : List S28} {B R Q : Int}
theorem Built.chunk (h : Built l B R Q) : ∀ c ∈ PTable.chunks (l.map rowS) B R, PTable.Chunk R c := by
 obtain ⟨_, _, h1, h2, _, _, _, hc⟩ := q1m h.rt
 exact PTable.chunks_ok B R h1 h2 hc
theorem Built.ok (h : Built l B R Q) : (tab l B R Q).2 = 0 := by
 have hx := h.txt
 have hl := h.len
 have hi := h.idx
 unfold tab PTable.table
 rw [if_neg (by rw [h.rt]; simp), if_neg (by rintro (h | h); exact h hi; omega)]
theorem Built.order (h : Built l B R Q) : PBlock.order (PTable.chunks (l.map rowS) B R).flatten = true := by
 rw [PTable.chunks_flat]
 exact (q1m h.rt).2.2.2.2.2.2.1
theorem Built.open_ (h : Built l B R Q) : PTable.open_ chkB (tab l B R Q).1 = some (tabT l B R Q) := by
 obtain ⟨_, _, _, _, q1, q2, _, _⟩ := q1m h.rt
 have h1 := keysB_length l
 have h2 := h.few
 have hf := filt_length l Q h.few (by omega)
 have hk : chkB (filt l Q) = true := by
  unfold chkB filt
  rw [Bloom.chk_filter _ _ (by omega) (by omega)]
  rfl
 unfold tabT
 rw [h.txt]
 exact PTable.open_whole chkB R _ _ hk (by omega) h.idx h.len h.chunk
theorem Built.shows (h : Built l B R Q) : PTable.Shows (fun p c => PTable.readT (tab l B R Q).1 p = some c) (tabT l B R Q).parts (PTable.chunks (l.map rowS) B R) := by
 rw [h.txt]
 exact PTable.shows_table R _ _ h.chunk
theorem Built.has (h : Built l B R Q) : ∀ r ∈ l.map rowS, hasB (filt l Q) r.key = true := by
 obtain ⟨_, _, _, _, q1, q2, _, _⟩ := q1m h.rt
 intro r hr
 unfold hasB filt
 refine Bloom.has_filter _ _ (by omega) _ ?_
 unfold keysB
 refine List.mem_map.2 ⟨r.key, ?_, rfl⟩
 have := PTable.keys_mem hr
 unfold PTable.keys at this
 rwa [List.length_map] at this
theorem Built.get (h : Built l B R Q) (key : List UInt8) (n : Nat) : PTable.get hasB (tabT l B R Q) key n = ((PTable.hv (l.map rowS) key n).1, (PTable.hv (l.map rowS) key n).2, 0) := by
 have hf := PTable.chunks_flat (l.map rowS) B R
 have := PTable.get_hv hasB (tab l B R Q).1 (filt l Q) (tabT l B R Q).parts _ h.shows h.order (by rw [hf]; exact h.has) key n
 rw [hf] at this
 exact this
theorem Built.scan (h : Built l B R Q) (a b : List UInt8) : PTable.scan (tabT l B R Q) a b = ((l.map rowS).filter (fun r => PTable.within a b r.key), 0) := by
 have := PTable.scan_whole (tab l B R Q).1 (filt l Q) a b (tabT l B R Q).parts _ h.shows h.order
 rw [PTable.chunks_flat] at this
 exact this
theorem Built.size (h : Built l B R Q) : (tab l B R Q).1.length ≤ 262144 := by rw [h.txt]; exact h.len
theorem lies_parts (n R : _) (cs : List (List PBlock.Row)) (hc : ∀ c ∈ cs, PTable.Chunk R c) (hn : (PTable.bodyOf R cs).length ≤ n) : ∀ p ∈ PTable.partsW R 0 cs, Lies n p := fun p hp => by
 obtain ⟨h1, h2, h3, h4⟩ := PTable.partsW_bounds R cs 0 n hc (by omega) p hp
 exact ⟨h1, h2, h3, h4⟩
theorem Built.lies (h : Built l B R Q) : ∀ p ∈ (tabT l B R Q).parts, Lies (tab l B R Q).1.length p := by
 refine lies_parts _ R _ h.chunk ?_
 rw [h.txt]
 exact whole_ge _ _ _
theorem q1l (B R : Int) (k : Nat) : ∀ l : List PBlock.Row, (PTable.chunksAt B R k l).length ≤ k := by
 induction k with
 | zero => intro l; exact Nat.le_refl _
 | succ k ih =>
  intro l
  rw [PTable.chunksAt]
  split
  ·exact Nat.zero_le _
  ·rw [List.length_cons]; have := ih (l.drop (PTable.cut l B R)); omega
theorem Built.parts_few (h : Built l B R Q) : (tabT l B R Q).parts.length ≤ 400 := by
 unfold tabT
 rw [PTable.partsW_length]
 have h1 := q1l B R (l.map rowS).length (l.map rowS)
 have h2 := h.few
 rw [List.length_map] at h1
 unfold PTable.chunks
 rw [List.length_map]
 omega
theorem Built.rows (h : Built l B R Q) : rowsIn ((tabT l B R Q).parts.map partB) = (l.length : Int) := by
 have h1 := PTable.shows_rows h.shows
 rw [PTable.chunks_flat, List.length_map] at h1
 rw [← h1]
 unfold rowsIn
 generalize (tabT l B R Q).parts = ps
 clear h1
 induction ps with
 | nil => rfl
 | cons p ps ih =>
  rw [List.map_cons, List.map_cons, List.sum_cons, List.map_cons, List.sum_cons, ih]
  push_cast
  rfl
theorem Built.parts_rows (h : Built l B R Q) : ∀ p ∈ (tabT l B R Q).parts.map partB, 0 ≤ p.f3 ∧ p.f3 ≤ 1024 := by
 intro p hp
 obtain ⟨x, hx, rfl⟩ := List.mem_map.1 hp
 have h1 := (h.lies x hx).rows
 show 0 ≤ (x.rows : Int) ∧ (x.rows : Int) ≤ 1024
 omega
theorem Built.first (h : Built l B R Q) : ((((tabT l B R Q).parts.map partB).head?.map fun p => p.f0).getD ⟨#[]⟩) = Txt.B ((l.map rowS).headD PTable.zeroRow).key := by
 have h1 := PTable.shows_first h.shows
 rw [PTable.chunks_flat] at h1
 rw [← h1]
 generalize (tabT l B R Q).parts = ps
 cases ps <;> rfl
theorem Built.last (h : Built l B R Q) : ((((tabT l B R Q).parts.map partB).getLast?.map fun p => p.f1).getD ⟨#[]⟩) = Txt.B ((l.map rowS).getLastD PTable.zeroRow).key := by
 have h1 := PTable.shows_last h.shows
 rw [PTable.chunks_flat] at h1
 rw [← h1]
 generalize (tabT l B R Q).parts = ps
 rw [List.getLast?_map]
 cases ps.getLast? <;> rfl
end
def Lain (w : World) (b : Nat) (l : List S28) (B R Q : Int) : Prop := ∃ A c, At w b (Txt.B (tab l B R Q).1) (Txt.B (filt l Q)) A c ((tabT l B R Q).parts.map partB)
section
variable {w w' : World} {b : Nat} {l : List S28} {B R Q : Int}
theorem Lain.below (h : Lain w b l B R Q) (hb : Below w.heap.size w w') : Lain w' b l B R Q := by
 obtain ⟨A, c, h⟩ := h
 exact ⟨A, c, h.below hb⟩
theorem Lain.lt (h : Lain w b l B R Q) : b < w.heap.size := by
 obtain ⟨A, c, h⟩ := h
 exact h.blk.lt
theorem build_tab (hl : ∀ x ∈ l, Fit x) (hs : l.length ≤ 1000) (A0 : Option Addr) (c0 : Nat) (hc0 : l.length ≤ c0) (w : World) (hr0 : Kd.C k28 w A0 l.length l) :
  Calls Try.prog 16 #[.slice A0 l.length c0, .agg #[.int .i64 B, .int .i64 R, .int .i64 Q]] w fun e w' => e = .returned (.tuple #[.string (Txt.B (tab l B R Q).1), .int .i64 ((tab l B R Q).2 : Nat)]) ∧ Below w.heap.size w w' :=
 build_any l hl hs A0 c0 hc0 B R Q w hr0
theorem open_tab (hB : Built l B R Q) (w : World) :
  Calls Try.prog 17 #[.string (Txt.B (tab l B R Q).1)] w fun e w' => ∃ b, e = .returned (.tuple #[.pointer (some ⟨b, 0, none⟩), .int .i64 0]) ∧ Lain w' b l B R Q ∧ w.heap.size ≤ b ∧ Below w.heap.size w w' := by
 have h := open_any (Txt.B (tab l B R Q).1) w (by rw [q0o]; have := hB.size; omega)
 rw [L_B, hB.open_] at h
 refine h.mono ?_
 rintro e w' ⟨⟨b, A, c, rfl, h1, h2⟩, h3⟩
 exact ⟨b, rfl, ⟨A, c, h1⟩, h2, h3⟩
theorem Len_tab (hB : Built l B R Q) (h : Lain w b l B R Q) : Calls Try.prog 11 #[.pointer (some ⟨b, 0, none⟩)] w fun e w' => e = .returned (.int .i64 (l.length : Int)) ∧ Below w.heap.size w w' := by
 obtain ⟨A, c, h⟩ := h
 have h1 := Len_any h hB.parts_rows (by rw [List.length_map]; have := hB.parts_few; omega)
 rw [hB.rows] at h1
 exact h1
theorem First_tab (hB : Built l B R Q) (h : Lain w b l B R Q) : Calls Try.prog 12 #[.pointer (some ⟨b, 0, none⟩)] w fun e w' => e = .returned (.string (Txt.B ((l.map rowS).headD PTable.zeroRow).key)) ∧ Below w.heap.size w w' := by
 obtain ⟨A, c, h⟩ := h
 have h1 := First_any h
 rw [hB.first] at h1
 exact h1
theorem Last_tab (hB : Built l B R Q) (h : Lain w b l B R Q) : Calls Try.prog 13 #[.pointer (some ⟨b, 0, none⟩)] w fun e w' => e = .returned (.string (Txt.B ((l.map rowS).getLastD PTable.zeroRow).key)) ∧ Below w.heap.size w w' := by
 obtain ⟨A, c, h⟩ := h
 have h1 := Last_any h (by rw [List.length_map]; have := hB.parts_few; omega)
 rw [hB.last] at h1
 exact h1
end
theorem Get_miss {w : World} {bt : Nat} {s f : ByteArray} {A : Option Addr} {c : Nat} {pts : List PTable.Part} (h : At w bt s f A c (pts.map partB)) (key : ByteArray) (hk : key.size ≤ 9223372036854775807) (n : Nat) (hh : hasB (L f) (L key) = false) :
  Calls Try.prog 9 #[.pointer (some ⟨bt, 0, none⟩), .string key, .int .u64 n] w fun e w' => e = .returned (getV (PTable.get hasB ⟨L s, L f, pts⟩ (L key) n)) ∧ Below w.heap.size w w' := by
 have hB := Bloom.has_any f key hk
 rw [show Bloom.has f key = false by have := hh; unfold hasB at this; rwa [B_L, B_L] at this] at hB
 have HB := Lib.hid hB
 have HA := Lib.hid h
 have hg : PTable.get hasB ⟨L s, L f, pts⟩ (L key) n = (PTable.zeroRow, false, 0) := by
  unfold PTable.get
  rw [if_pos hh]
 rw [hg]
 clear hB h hg
 go_enter Try.func9, Try.ntmps9
 go_wp2_with fail
 have g0 := GB.new w bt key n
 generalize (((((w.alloc _).alloc _).alloc _).alloc _).alloc _).alloc _ = W1 at g0 ⊢
 have hA1 := HA.out.below_of g0.low
 refine (hA1.open_).mono ?_
 rintro e w' ⟨rfl, rfl⟩
 have c3 := (g0.x3.cell 0).trans rfl
 have c4 := (g0.x4.cell 0).trans rfl
 have cf := (hA1.blk.cell 1).trans rfl
 have lt := hA1.blk.lt
 go_wp2_with fail
 go_region_held3 (fun w' => w'.cell? ⟨w.heap.size, 0, none⟩ = some (.pointer (some ⟨bt, 0, none⟩)) ∧ w'.cell? ⟨w.heap.size + 1, 0, none⟩ = some (.string key) ∧ w'.cell? ⟨bt, 1, none⟩ = some (.string f)) (exact ⟨c3, c4, cf⟩) (first | (((with_reducible refine (HB.out _).mono ?_); rintro e w2 ⟨rfl, hb2⟩; have c3 := (hb2.cell (World.block_lt_of_cell? W1 _ c3)).trans c3; have c4 := (hb2.cell (World.block_lt_of_cell? W1 _ c4)).trans c4; have cf := (hb2.cell (World.block_lt_of_cell? W1 _ cf)).trans cf)))
 have hb := q0g (Below.refl W1.heap.size W1).drew hb2
 have gb := g0.below hb
 have GB2 := Lib.hid (gb.write ⟨⟨#[]⟩, 0, 0, ⟨#[]⟩⟩ false 0)
 have q0 := (gb.x6.cell 0).trans rfl
 have q1 := (gb.x6.cell 1).trans rfl
 have q2 := (gb.x6.cell 2).trans rfl
 have q3 := (gb.x6.cell 3).trans rfl
 have q4 := (gb.x7.cell 0).trans rfl
 have q5 := (gb.x8.cell 0).trans rfl
 have f0 := gb.x6.frozen 0
 have f1 := gb.x6.frozen 1
 have f2 := gb.x6.frozen 2
 have f3 := gb.x6.frozen 3
 have f4 := gb.x7.frozen 0
 have f5 := gb.x8.frozen 0
 have l6 := gb.x6.lt
 have l7 := gb.x7.lt
 have l8 := gb.x8.lt
 go_wp2_with fail
 clear q0 q1 q2 q3 q4 q5 f0 f1 f2 f3 f4 f5 gb
 change bodyPost _ _ _ _ _ (wrote w w2 ⟨⟨#[]⟩, 0, 0, ⟨#[]⟩⟩ false 0)
 have gb2 := GB2.out
 generalize wrote w w2 ⟨⟨#[]⟩, 0, 0, ⟨#[]⟩⟩ false 0 = W9 at gb2 ⊢
 have q0 := (gb2.x6.cell 0).trans rfl
 have q1 := (gb2.x6.cell 1).trans rfl
 have q2 := (gb2.x6.cell 2).trans rfl
 have q3 := (gb2.x6.cell 3).trans rfl
 have q4 := (gb2.x7.cell 0).trans rfl
 have q5 := (gb2.x8.cell 0).trans rfl
 refine ⟨rfl, getV (PTable.zeroRow, false, 0), ?_, rfl, gb2.low⟩
 simp [results, Try.results9, go_sem, q0, q1, q2, q3, q4, q5, getV, rowB, PTable.zeroRow]
section
variable {w w' : World} {b : Nat} {l : List S28} {B R Q : Int}
def getR (l : List S28) (key : ByteArray) (n : Nat) : Value := getV ((PTable.hv (l.map rowS) (L key) n).1, (PTable.hv (l.map rowS) (L key) n).2, 0)
theorem Get_tab (hB : Built l B R Q) (h : Lain w b l B R Q) (key : ByteArray) (hk : key.size ≤ 9223372036854775807) (n : Nat) : Calls Try.prog 9 #[.pointer (some ⟨b, 0, none⟩), .string key, .int .u64 n] w fun e w' => e = .returned (getR l key n) ∧ Below w.heap.size w w' := by
 obtain ⟨A, c, h⟩ := h
 have hg := hB.get (L key) n
 unfold getR
 rw [← hg]
 have hs : (Txt.B (tab l B R Q).1).size ≤ 262144 := by rw [q0o]; exact hB.size
 have hL : ∀ p ∈ (tabT l B R Q).parts, Lies (Txt.B (tab l B R Q).1).size p := by rw [q0o]; exact hB.lies
 cases hh : hasB (filt l Q) (L key) with
 | true => exact Get_any h hs hL (by have := hB.parts_few; omega) key hk n hh
 | false => exact Get_miss h key hk n hh
end
end Go.Proofs.Ytaigmemmgjlhgaa.Tab
-- TabU
namespace Go.Proofs.Ytaigmemmgjlhgaa.Tab
open Go.RowKit Aid Txt Print PLink Block Bits Go.Proofs.YtaigmemmgjlhgaaW.PrintWords
theorem put_le {p : List UInt8} (h : p.length ≤ 65536) : (PFrame.put p).1.length ≤ p.length + 14 := by
 have := PCode.putUint_length_ten (n := p.length) (by omega)
 rw [PFrame.put_ok h]
 unfold PCode.putField
 rw [List.length_append, List.length_append, PFrame.seal_length]
 omega
def rowL : List S28 := [(⟨(⟨#[97]⟩ : ByteArray), 1, 1, (⟨#[120]⟩ : ByteArray)⟩ : S28)]
theorem rowL_map : rowL.map rowS = [row1] := rfl
theorem rowL_fit : ∀ x ∈ rowL, Fit x := by
 intro x hx
 rw [List.mem_singleton.1 hx]
 exact ⟨by show (0 : Int) ≤ 1; omega, by show (1 : Int) < 18446744073709551616; omega⟩
theorem index1 : (PBlock.build (PTable.index 16 [[row1]]) 1).2 = 0 := by
 have hc : PBlock.check (PTable.entry 0 [row1]) = 0 := by
  have h1 := PCode.putUint_length_ten (n := 1) (by omega)
  have h0 := PCode.putUint_length_ten (n := 0) (by omega)
  have hv : (PTable.entry 0 [row1]).value.length ≤ 2048 := by
   unfold PTable.entry PCode.putField
   simp only [List.length_append]
   simp [row1]
   omega
  unfold PBlock.check
  rw [if_neg (by rintro (h | h | h | h | h) <;> simp [PTable.entry, row1] at h), if_neg]
  rintro (h | h)
  ·simp [PTable.entry, row1] at h
  ·omega
 exact one_ok (l := [PTable.entry 0 [row1]]) (by intro r hr; rw [List.mem_singleton.1 hr]; exact hc) 1 (by omega) (by omega)
theorem tab1 : (tab rowL 64 16 10).2 = 0 := by
 have hi := index1
 have h1 := build1 16 (by omega) (by omega)
 have hf := filt_length rowL 10 (by decide) (by omega)
 have l1 := (PBlock.build_ok (l := PTable.index 16 [[row1]]) (s := (PBlock.build (PTable.index 16 [[row1]]) 1).1) (Prod.ext rfl hi)).2.2.2.2.2.2
 have l2 := (PBlock.build_ok (l := [row1]) (s := (PBlock.build [row1] 16).1) (Prod.ext rfl h1)).2.2.2.2.2.2
 have hw : (PTable.whole 16 [[row1]] (filt rowL 10)).length ≤ 262144 := by
  unfold PTable.whole
  simp only [List.length_append, PTable.foot_length]
  have e1 := put_le (p := filt rowL 10) (by omega)
  have e2 := put_le l1
  have e3 := put_le l2
  have e4 : (PTable.bodyOf 16 [[row1]]).length = (PFrame.put (PBlock.build [row1] 16).1).1.length := by
   rw [PTable.bodyOf_cons]
   rfl
  omega
 unfold tab PTable.table
 rw [rowL_map, right1, if_neg (by simp), chunks1, hi, if_neg]
 rintro (h | h)
 ·exact h rfl
 ·omega
theorem built1 : Built rowL 64 16 10 := built_of (by decide) tab1
theorem lit1 (w : World) : Kd.C k28 (w.alloc (.cells #[.string ⟨#[97]⟩, .int .u64 1, .int .i64 1, .string ⟨#[120]⟩] 28)) (some ⟨w.heap.size, 0, none⟩) rowL.length rowL := by
 have h : Kd.R k28 28 (w.alloc (.cells #[.string ⟨#[97]⟩, .int .u64 1, .int .i64 1, .string ⟨#[120]⟩] 28)) w.heap.size (fun _ => True) (.slice (some ⟨w.heap.size, 0, none⟩) 1 1) rowL := by
  refine ⟨fun _ _ => trivial, [.string ⟨#[97]⟩, .int .u64 1, .int .i64 1, .string ⟨#[120]⟩], ?_, ?_⟩
  ·exact World.ownsRow_lit (base := w.heap.size) (e := 28) (size := 4) w #[.string ⟨#[97]⟩, .int .u64 1, .int .i64 1, .string ⟨#[120]⟩] 1 (Nat.le_refl _) (by decide) rfl
  ·exact Reps.snoc (Reps.none _ _) (k28_mkM _ _ _ _) rfl
 exact (Kd.R_reads' h).2.2
theorem open_nil : PTable.open_ chkB [] = none := by
 unfold PTable.open_
 rw [if_pos (by simp)]
theorem get1 : getR rowL ⟨#[97]⟩ 5 = .tuple #[.agg #[.string ⟨#[97]⟩, .int .u64 1, .int .i64 1, .string ⟨#[120]⟩], .bool true, .int .i64 0] := by
 unfold getR
 rw [rowL_map, show L (⟨#[97]⟩ : ByteArray) = [97] from rfl, show PTable.hv [row1] [97] 5 = (row1, true) by simp [PTable.hv, row1]]
 rfl
set_option maxRecDepth 100000 in
set_option maxHeartbeats 4000000 in
theorem awake_any (w : World) : Calls Try.prog 15 #[] w fun e w' => e = .returned (.bool true) ∧ Below w.heap.size w w' := by
 have hl := lit1 w
 have PB := build_tab (B := 64) (R := 16) (Q := 10) rowL_fit (by decide) (some ⟨w.heap.size, 0, none⟩) 1 (by decide) _ hl
 rw [tab1] at PB
 have PB := Lib.hid PB
 have PO := Lib.hid (fun w' => open_tab built1 w')
 have PN := Lib.hid (fun w' => open_any (⟨#[]⟩ : ByteArray) w' (by decide))
 clear hl
 generalize Txt.B (tab rowL 64 16 10).1 = S at PB PO
 go_enter Try.func15, Try.ntmps15
 go_wp2_with fail
 refine (PB.out).mono ?_
 rintro e w1 ⟨rfl, hb1⟩
 have hB := q0g ((Below.refl w.heap.size w).alloc (Nat.le_refl _) _) hb1
 clear hb1
 go_wp2_with fail
 refine (PO.out _).mono ?_
 rintro e w2 ⟨b, rfl, hL, hbl, hb2⟩
 have hB := q0g hB hb2
 clear hb2
 have PG := Lib.hid (Get_tab built1 hL ⟨#[97]⟩ (by decide) 5)
 rw [get1] at PG
 go_wp2_with fail
 refine (PG.out).mono ?_
 rintro e w3 ⟨rfl, hb3⟩
 have hB := q0g hB hb3
 have hL := hL.below hb3
 clear hb3 PG
 have hb4 := (Below.refl w3.heap.size w3).alloc (Nat.le_refl _) (.cells #[.string ⟨#[97]⟩, .int .u64 1, .int .i64 1, .string ⟨#[120]⟩] 28)
 have BR := Blk.new w3 28 #[.string ⟨#[97]⟩, .int .u64 1, .int .i64 1, .string ⟨#[120]⟩]
 have hB := q0g hB hb4
 have hL := hL.below hb4
 clear hb4
 go_wp2_with fail
 refine (PN.out _).mono ?_
 rintro e w4 ⟨ho, hb5⟩
 rw [show L (⟨#[]⟩ : ByteArray) = [] from rfl, open_nil] at ho
 obtain rfl : e = .returned (.tuple #[.pointer none, .int .i64 10]) := ho
 have hB := q0g hB hb5
 have hL := hL.below hb5
 have BR := BR.below hb5 BR.lt
 have d3 := (BR.cell 3).trans rfl
 clear hb5
 have PL := Lib.hid (fun w' (h : Lain w' b rowL 64 16 10) => Len_tab built1 h)
 have PF := Lib.hid (fun w' (h : Lain w' b rowL 64 16 10) => First_tab built1 h)
 have PA := Lib.hid (fun w' (h : Lain w' b rowL 64 16 10) => Last_tab built1 h)
 rw [rowL_map] at PF PA
 rw [show Txt.B ((([row1] : List PBlock.Row).headD PTable.zeroRow).key) = (⟨#[97]⟩ : ByteArray) from rfl] at PF
 rw [show Txt.B ((([row1] : List PBlock.Row).getLastD PTable.zeroRow).key) = (⟨#[97]⟩ : ByteArray) from rfl] at PA
 go_wp2_with (first | (refine (PL.out _ hL).mono ?_; rintro e w5 ⟨rfl, hb6⟩; have hB := q0g hB hb6; have hL := hL.below hb6; clear hb6) | (refine (PF.out _ hL).mono ?_; rintro e w5 ⟨rfl, hb6⟩; have hB := q0g hB hb6; have hL := hL.below hb6; clear hb6) | (refine (PA.out _ hL).mono ?_; rintro e w5 ⟨rfl, hb6⟩; have hB := q0g hB hb6; have hL := hL.below hb6; clear hb6))
 go_ret
 exact ⟨rfl, hB⟩
end Go.Proofs.Ytaigmemmgjlhgaa.Tab
-- TabK
namespace Go.Proofs.Ytaigmemmgjlhgaa.Tab
open Go.RowKit Aid Txt Print PLink Block Bits Go.Proofs.YtaigmemmgjlhgaaW.PrintWords
theorem eqRow (d : Nat) (w : World) (x0 y0 x3 y3 : ByteArray) (x1 y1 x2 y2 : Int) :
  (Op.equalIn (d + 2) 28 (.agg #[.string x0, .int .u64 x1, .int .i64 x2, .string x3]) (.agg #[.string y0, .int .u64 y1, .int .i64 y2, .string y3])).run Try.prog w = .ok (x0.toList == y0.toList && (x1 == y1 && (x2 == y2 && x3.toList == y3.toList))) w := by
 refine eqA_of Try.underlying28 (by kernel_rfl) ?_
 refine q1z (by rfl) (by go_simp; rfl) (by go_simp; rfl) (by go_simp) ?_
 refine q1z (by rfl) (by go_simp; rfl) (by go_simp; rfl) (by go_simp) ?_
 refine q1z (by rfl) (by go_simp; rfl) (by go_simp; rfl) (by go_simp) ?_
 exact eqf_last (by rfl) (by go_simp; rfl) (by go_simp; rfl) (by go_simp)
theorem Lain.drew {w : World} {b : Nat} {l : List S28} {B R Q : Int} (h : Lain w b l B R Q) : Lain w.drew b l B R Q := h.below (Below.refl _ _).drew
theorem Lain.drewN {w : World} {b : Nat} {l : List S28} {B R Q : Int} (h : Lain w b l B R Q) (n : Nat) : Lain (w.drewN n) b l B R Q := h.below (q0z (Below.refl _ _) n)
theorem wrote4 {W : World} {g : Nat} {v0 v1 v2 v3 : Value} (h : Blk W g 28 #[v0, v1, v2, v3]) (x : S28) : Blk ((((W.setCell ⟨g, 0, none⟩ (.string x.f0)).setCell ⟨g, 1, none⟩ (.int .u64 x.f1)).setCell ⟨g, 2, none⟩ (.int .i64 x.f2)).setCell ⟨g, 3, none⟩ (.string x.f3)) g 28 #[.string x.f0, .int .u64 x.f1, .int .i64 x.f2, .string x.f3] :=
 (((h.set_ 0 _).set_ 1 _).set_ 2 _).set_ 3 _
end Go.Proofs.Ytaigmemmgjlhgaa.Tab
-- TabD
namespace Go.Proofs.Ytaigmemmgjlhgaa.Tab
open Go.RowKit Aid Txt Print PLink Block Bits Go.Proofs.YtaigmemmgjlhgaaW.PrintWords
theorem flips_in (n : Int) (hd K : Nat) (a x b : List UInt8) (h : 8 * hd + K + 32 ≤ 8 * x.length) : ∀ i, i ≤ 32 → flips n (a.length + hd) K (a ++ (x ++ b)) i = a ++ (flips n hd K x i ++ b)
 | 0, _ => rfl
 | i + 1, hi => by
  have ih := flips_in n hd K a x b h i (by omega)
  have hs : spot (a.length + hd) K i = a.length + spot hd K i := by unfold spot; omega
  have hlt : spot hd K i < x.length := by unfold spot; omega
  rw [flips, flips, ih, hs]
  by_cases c : n / 2 ^ i % 2 = 1
  ·rw [if_pos c, if_pos c]
   have e1 : (a ++ (flips n hd K x i ++ b)).getD (a.length + spot hd K i) 0 = (flips n hd K x i).getD (spot hd K i) 0 := by
    rw [List.getD_eq_getElem?_getD, List.getD_eq_getElem?_getD, List.getElem?_append_right (by omega), Nat.add_sub_cancel_left, List.getElem?_append_left (by rw [q12]; exact hlt)]
   rw [e1, List.set_append_right _ _ (by omega), Nat.add_sub_cancel_left, List.set_append_left _ _ (by rw [q12]; exact hlt)]
  ·rw [if_neg c, if_neg c]
theorem loads_small {l : List S28} {B R Q : Int} (h : Built l B R Q) : ∀ p ∈ PTable.loads R (PTable.chunks (l.map rowS) B R) (filt l Q), p.length ≤ 65536 := by
 obtain ⟨_, _, _, _, q1, q2, _, _⟩ := q1m h.rt
 intro p hp
 unfold PTable.loads at hp
 rcases List.mem_append.1 hp with hp | hp
 ·obtain ⟨c, hc, rfl⟩ := List.mem_map.1 hp
  have hb := (h.chunk c hc).built
  exact (PBlock.build_ok (l := c) (s := (PBlock.build c R).1) (Prod.ext rfl hb)).2.2.2.2.2.2
 ·rcases List.mem_cons.1 hp with rfl | hp
  ·have := filt_length l Q h.few (by omega)
   omega
  ·rw [List.mem_singleton.1 hp]
   have hb := h.idx
   exact (PBlock.build_ok (s := (PBlock.build (PTable.index R (PTable.chunks (l.map rowS) B R)) 1).1) (Prod.ext rfl hb)).2.2.2.2.2.2
abbrev HurtT (l : List S28) (B R Q : Int) (S : List UInt8) : Prop := PTable.Hurt chkB R (PTable.chunks (l.map rowS) B R) (filt l Q) S
theorem chk_filt {l : List S28} {B R Q : Int} (h : Built l B R Q) : chkB (filt l Q) = true := by
 obtain ⟨_, _, _, _, q1, q2, _, _⟩ := q1m h.rt
 have h1 := keysB_length l
 have h2 := h.few
 unfold chkB filt
 rw [Bloom.chk_filter _ _ (by omega) (by omega)]
 rfl
theorem hurt_flip {l : List S28} {B R Q : Int} (h : Built l B R Q) (a b : List (List UInt8)) (p : List UInt8) (hsp : PTable.loads R (PTable.chunks (l.map rowS) B R) (filt l Q) = a ++ p :: b) (v : BitVec 32) (hv : v ≠ 0) (K : Nat) (hK : K + 32 ≤ 8 * (p.length + 4)) :
  HurtT l B R Q (flips (v.toNat : Int) ((PTable.frames a).length + (PCode.putUint p.length).length) K (tab l B R Q).1 32) := by
 have hp : p.length ≤ 65536 := loads_small h p (by rw [hsp]; simp)
 have hf := filt_length l Q h.few (by have := q1m h.rt; omega)
 have hpl : (PFrame.put p).1.length = (PCode.putUint p.length).length + p.length + 4 := by rw [PFrame.put_ok hp]; simp [PCode.putField, PFrame.seal_length]; omega
 have hg := get_burst p hp v hv K hK
 rw [h.txt, PTable.whole_frames, hsp, PTable.frames_append, PTable.frames_cons, List.append_assoc, List.append_assoc, flips_in _ _ _ _ _ _ (by omega) 32 (by omega)]
 refine PTable.hurt_frame chkB R _ _ (chk_filt h) (by omega) h.idx h.len h.chunk a b p _ hsp (q12 _ _ _ _ _) ?_
 unfold PTable.one
 rw [hg]
 rfl
theorem hurt_flip_foot {l : List S28} {B R Q : Int} (h : Built l B R Q) (v : BitVec 32) (hv : v ≠ 0) (K : Nat) (hK : K + 32 ≤ 160) :
  HurtT l B R Q (flips (v.toNat : Int) (PTable.frames (PTable.loads R (PTable.chunks (l.map rowS) B R) (filt l Q))).length K (tab l B R Q).1 32) := by
 rw [h.txt, PTable.whole_frames]
 have hl := PTable.foot_length (PTable.bodyOf R (PTable.chunks (l.map rowS) B R)).length ((PTable.bodyOf R (PTable.chunks (l.map rowS) B R)).length + (PFrame.put (filt l Q)).1.length)
 have hs := PTable.foot_seal (PTable.bodyOf R (PTable.chunks (l.map rowS) B R)).length ((PTable.bodyOf R (PTable.chunks (l.map rowS) B R)).length + (PFrame.put (filt l Q)).1.length)
 generalize PTable.foot _ _ = FT at hl hs ⊢
 have e := flips_in (v.toNat : Int) 0 K (PTable.frames (PTable.loads R (PTable.chunks (l.map rowS) B R) (filt l Q))) FT [] (by omega) 32 (by omega)
 rw [List.append_nil, List.append_nil, Nat.add_zero] at e
 rw [e]
 refine PTable.hurt_foot chkB R _ _ _ (by rw [q12]; exact hl) ?_
 rw [← hs]
 exact fold_burst v hv _ FT 0 K (by omega)
def endsF : Nat → List (List UInt8) → List Nat
 | _, [] => []
 | q, p :: ps => (q + (PFrame.put p).1.length) :: endsF (q + (PFrame.put p).1.length) ps
theorem endsF_snoc (p : List UInt8) : ∀ (ps : List (List UInt8)) (q : Nat), endsF q (ps ++ [p]) = endsF q ps ++ [q + (PTable.frames ps).length + (PFrame.put p).1.length]
 | [], q => by simp [endsF, PTable.frames]
 | r :: ps, q => by
  rw [List.cons_append, endsF, endsF_snoc p ps, endsF, PTable.frames_cons, List.length_append, List.cons_append]
  simp only [Nat.add_assoc]
theorem q17 : ∀ (ps : List (List UInt8)) (q : Nat), (endsF q ps).length = ps.length
 | [], _ => rfl
 | _ :: ps, q => by rw [endsF, List.length_cons, List.length_cons, q17 ps]
theorem endsF_at : ∀ (a : List (List UInt8)) (p : List UInt8) (b : List (List UInt8)) (q : Nat), (endsF q (a ++ p :: b))[a.length]? = some (q + (PTable.frames a).length + (PFrame.put p).1.length)
 | [], p, b, q => by simp [endsF, PTable.frames]
 | r :: a, p, b, q => by
  rw [List.cons_append, endsF, List.length_cons, List.getElem?_cons_succ, endsF_at a p b, PTable.frames_cons, List.length_append]
  simp only [Nat.add_assoc]
theorem infoInt : (Try.prog.info? 3).map (fun i => (i.zero, i.size, i.bytes)) = some (some (.int .i64 0), 1, 8) := by kernel_rfl
end Go.Proofs.Ytaigmemmgjlhgaa.Tab
-- TabZ
namespace Go.Proofs.Ytaigmemmgjlhgaa.Tab
open Go.RowKit Aid Txt Print PLink Block Bits Go.Proofs.YtaigmemmgjlhgaaW.PrintWords
abbrev nums (l : List Nat) : List Int := List.map (fun n : Nat => Int.ofNat n) l
theorem byte_at {s : ByteArray} {q : Nat} {D rest : List UInt8} (h : (L s).drop q = D ++ rest) (j : Nat) (hj : j < D.length) (v : Nat) (hv : (D.getD j 0).toNat = v) : ∀ hlt : q + j < s.size, (s[q + j]'hlt).toNat = v := by
 intro hlt
 have h1 : ((L s).drop q)[j]? = (D ++ rest)[j]? := by rw [h]
 rw [List.getElem?_drop, List.getElem?_append_left hj] at h1
 have h2 : (L s)[q + j]? = some (s[q + j]'hlt) := by
  rw [List.getElem?_eq_getElem (by rw [q0i]; exact hlt)]
  rfl
 rw [h2, List.getElem?_eq_getElem hj] at h1
 injection h1 with h1
 rw [h1, ← hv, List.getD_eq_getElem?_getD, List.getElem?_eq_getElem hj]
 rfl
set_option maxRecDepth 100000 in
set_option maxHeartbeats 8000000 in
theorem ends_any (s : ByteArray) (ps : List (List UInt8)) (FT : List UInt8) (hS : L s = PTable.frames ps ++ FT) (hft : FT.length = 20) (hp : ∀ p ∈ ps, p.length ≤ 65536) (hs : s.size ≤ 262144) (hn : ps.length ≤ 100000) (w : World) :
  Calls Try.prog 23 #[.string s] w fun e w' => ∃ v, e = .returned v ∧ Kd.R (Kd.int .i64) 3 w' w.heap.size (fun _ => True) v (nums (endsF 0 ps ++ [s.size])) ∧ Below w.heap.size w w' := by
 have hlen := congrArg List.length hS
 rw [q0i, List.length_append, hft] at hlen
 have HS := Lib.hid hS
 have HP := Lib.hid hp
 clear hS hp
 have hw20 : IntKind.i64.wrap ((s.size : Int) - 20) = ((PTable.frames ps).length : Int) := by rw [show (s.size : Int) - 20 = ((PTable.frames ps).length : Int) by omega]; exact IntWalk.i64_in _ (by omega)
 have HL := Lib.hid hlen
 clear hlen
 go_enter Try.func23, Try.ntmps23
 go_wp2_with fail
 go_loopw [3, 4] (fun v3 v4 wr => ∃ a b : List (List UInt8), ps = a ++ b ∧ v4 = .int .i64 ((PTable.frames a).length : Int) ∧ Kd.R (Kd.int .i64) 3 wr w.heap.size (fun _ => True) v3 (nums (endsF 0 a)) ∧ Below w.heap.size w wr) (fun _ v4 _ => (PTable.frames ps).length - (intOf v4).toNat)
 case atStart => exact ⟨[], ps, rfl, rfl, Kd.R_nil _ _ _ _ _, Below.refl _ _⟩
 case round =>
  obtain ⟨a, b, hab, rfl, hR, hB⟩ := hrel
  cases b with
  | nil =>
   rw [List.append_nil] at hab
   subst hab
   have t1 : (((PTable.frames ps).length : Int) < ((PTable.frames ps).length : Int)) = False := eq_false (by omega)
   obtain ⟨A3, c3, rfl⟩ := Kd.R_slice hR
   have hln : (nums (endsF 0 ps)).length ≤ 100000 := by rw [List.length_map, q17]; exact hn
   have hap : nums (endsF 0 ps) ++ [(s.size : Int)] = nums (endsF 0 ps ++ [s.size]) := by rw [nums, nums, List.map_append]; rfl
   generalize (PTable.frames ps).length = M at *
   generalize nums (endsF 0 ps) = xs at *
   have HAP := Lib.hid hap
   clear hap
   have HR := Lib.hid hR
   have HB := Lib.hid hB
   clear hR hB
   go_wp2_with (at_builtin; refine Kd.R_append (Kd.int .i64) (w0 := w) w.heap.size rfl (.tmp 54) (.tmp 57) 53 3 (.int .i64 0) 8 rfl Try.underlying53 infoInt rfl (by decide) (by omega) (.slice A3 xs.length c3) xs (s.size : Int) [.int .i64 (s.size : Int)] (fun _ => True) (fun _ => False) rfl rfl (show Kd.M (Kd.int .i64) _ _ _ (s.size : Int) [.int .i64 (s.size : Int)] from rfl) (fun _ h => h.elim) (fun _ _ => trivial) HR.out HB.out HB.out.size (by omega) ?_; intro v1 w1 hR1 hb1 _ _)
   rw [HAP.out] at hR1
   go_ret
   exact ⟨_, rfl, hR1, hb1⟩
  | cons p b =>
   have hpm := HP.out p (by rw [hab]; simp)
   have hfl : (PTable.frames ps).length = (PTable.frames a).length + (PFrame.put p).1.length + (PTable.frames b).length := by
    rw [hab, PTable.frames_append, PTable.frames_cons, List.length_append, List.length_append]
    omega
   have hpl : (PFrame.put p).1.length = (PCode.putUint p.length).length + p.length + 4 := by rw [PFrame.put_ok hpm]; simp [PCode.putField, PFrame.seal_length]; omega
   have hdr : ∃ rest, (L s).drop (PTable.frames a).length = PCode.putUint p.length ++ rest := by
    refine ⟨p ++ (PFrame.mark (PCode.putField p) ++ (PTable.frames b ++ FT)), ?_⟩
    rw [HS.out, hab, PTable.frames_append, PTable.frames_cons, List.append_assoc, List.drop_left, PFrame.put_ok hpm]
    simp [PCode.putField]
   obtain ⟨rest, hdr⟩ := hdr
   have t1 : (((PTable.frames a).length : Int) < ((PTable.frames ps).length : Int)) = True := eq_true (by omega)
   obtain ⟨A3, c3, rfl⟩ := Kd.R_slice hR
   generalize hq : (PTable.frames a).length = q at *
   generalize (PTable.frames ps).length = M at *
   have HAB := Lib.hid hab
   have hln : (nums (endsF 0 a)).length ≤ 100000 := by
    have := congrArg List.length hab
    rw [List.length_append] at this
    rw [List.length_map, q17]
    omega
   have hnx : ∀ (d : Nat) (val : Int), (PCode.putUint p.length).length = d → val = (q : Int) + d + p.length + 4 → nums (endsF 0 (a ++ [p])) = nums (endsF 0 a) ++ [val] ∧ ((PTable.frames (a ++ [p])).length : Int) = val := by
    intro d val hd hv
    have h1 : (PTable.frames (a ++ [p])).length = q + (PFrame.put p).1.length := by
     rw [PTable.frames_append, List.length_append, hq, PTable.frames_cons]
     simp [PTable.frames]
    refine ⟨?_, by rw [h1]; omega⟩
    rw [endsF_snoc, nums, nums, List.map_append, List.map_cons, List.map_nil, hq, hv]
    congr 2
    rw [Nat.zero_add]
    show ((q + (PFrame.put p).1.length : Nat) : Int) = _
    omega
   have HNX := Lib.hid hnx
   clear hnx
   have hR' := Lib.hid hR
   have hB' := Lib.hid hB
   clear hR hB
   clear hab hq
   generalize nums (endsF 0 a) = xs at *
   generalize hm : p.length = m at *
   have hsz : q + m + 25 ≤ s.size := by have := HL.out; have := PCode.putUint_pos m; omega
   have hqM : q < M := by have := PCode.putUint_pos m; omega
   clear hfl hpl
   have HM := Lib.hid hm
   clear hm
   go_wp2_with fail
   go_loop [5, 6] (fun v5 v6 => (v5 = .int .i64 0 ∧ v6 = .int .i64 0) ∨ (128 ≤ m ∧ v5 = .int .i64 ((m % 128 : Nat) : Int) ∧ v6 = .int .i64 1) ∨ (16384 ≤ m ∧ v5 = .int .i64 ((m % 16384 : Nat) : Int) ∧ v6 = .int .i64 2)) (fun _ v6 => 3 - (intOf v6).toNat)
   case atStart => exact .inl ⟨rfl, rfl⟩
   case round =>
    rcases hrel with ⟨rfl, rfl⟩ | ⟨hm1, rfl, rfl⟩ | ⟨hm2, rfl, rfl⟩
    ·have z1 : (q : Int) < (s.size : Int) := by omega
     have z2 : (0 : Int) ≤ (q : Int) := by omega
     have z3 : q < s.size := by omega
     by_cases h1 : m < 128
     ·rw [PCode.putUint_small h1] at hdr
      have hd : (PCode.putUint m).length = 1 := by rw [PCode.putUint_small h1]; rfl
      have by0 := byte_at hdr 0 (by simp) m (by simp; omega)
      rw [Nat.add_zero] at by0
      have t2 : decide ((128 : Int) ≤ (m : Int)) = false := decide_eq_false (by omega)
      have t3 : decide (128 ≤ m) = false := decide_eq_false (by omega)
      go_wp2_with (at_builtin; refine Kd.R_append (Kd.int .i64) (w0 := w) w.heap.size rfl (.tmp 50) (.tmp 52) 53 3 (.int .i64 0) 8 rfl Try.underlying53 infoInt rfl (by decide) (by omega) (.slice A3 xs.length c3) xs _ [.int .i64 _] (fun _ => True) (fun _ => False) rfl rfl (show Kd.M (Kd.int .i64) _ _ _ _ [.int .i64 _] from rfl) (fun _ h => h.elim) (fun _ _ => trivial) hR'.out hB'.out hB'.out.size (by omega) ?_; intro v1 w1 hR1 hb1 _ _)
      go_roundw
      case rel =>
       refine ⟨a ++ [p], b, by rw [HAB.out]; simp, congrArg (Value.int .i64) (by rw [(HNX.out 1 _ hd rfl).2]; omega), Eq.mpr (congrArg (Kd.R (Kd.int .i64) 3 _ w.heap.size (fun _ => True) _) (HNX.out 1 _ hd (by omega)).1) hR1, hb1⟩
      case measure => simp only [intOf]; omega
     ·rw [PCode.putUint_big h1] at hdr
      have by0 := byte_at hdr 0 (by simp) (m % 128 + 128) (by simp; omega)
      rw [Nat.add_zero] at by0
      obtain ⟨c, hc⟩ : ∃ c : Nat, c = m % 128 := ⟨_, rfl⟩
      have y1 : c < 128 := by omega
      have y2 : (c : Int) < 128 := by omega
      have y3 : (0 : Int) ≤ (c : Int) := by omega
      have t2 : decide ((128 : Int) ≤ ((c + 128 : Nat) : Int)) = true := decide_eq_true (by omega)
      have t3 : decide (128 ≤ c + 128) = true := decide_eq_true (by omega)
      rw [← hc] at by0
      go_wp2_with fail
      go_round
      case rel => exact .inr (.inl ⟨by omega, congrArg (Value.int .i64) (by omega), rfl⟩)
      case measure => simp [intOf]
    ·have z1 : ((q : Int) + 1) < (s.size : Int) := by omega
     have z2 : (0 : Int) ≤ (q : Int) + 1 := by omega
     have z3 : q + 1 < s.size := by omega
     rw [PCode.putUint_big (show ¬ m < 128 by omega)] at hdr
     obtain ⟨c, hc⟩ : ∃ c : Nat, c = m % 128 := ⟨_, rfl⟩
     have y1 : c < 128 := by omega
     have y2 : (c : Int) < 128 := by omega
     have y3 : (0 : Int) ≤ (c : Int) := by omega
     by_cases h1 : m / 128 < 128
     ·rw [PCode.putUint_small h1] at hdr
      have hd : (PCode.putUint m).length = 2 := by rw [PCode.putUint_big (show ¬ m < 128 by omega), PCode.putUint_small h1]; rfl
      have by1 := byte_at hdr 1 (by simp) (m / 128) (by simp; omega)
      have t2 : decide ((128 : Int) ≤ (m : Int) / 128) = false := decide_eq_false (by omega)
      have t3 : decide (128 ≤ m / 128) = false := decide_eq_false (by omega)
      go_wp2_with (at_builtin; refine Kd.R_append (Kd.int .i64) (w0 := w) w.heap.size rfl (.tmp 50) (.tmp 52) 53 3 (.int .i64 0) 8 rfl Try.underlying53 infoInt rfl (by decide) (by omega) (.slice A3 xs.length c3) xs _ [.int .i64 _] (fun _ => True) (fun _ => False) rfl rfl (show Kd.M (Kd.int .i64) _ _ _ _ [.int .i64 _] from rfl) (fun _ h => h.elim) (fun _ _ => trivial) hR'.out hB'.out hB'.out.size (by omega) ?_; intro v1 w1 hR1 hb1 _ _)
      go_roundw
      case rel =>
       refine ⟨a ++ [p], b, by rw [HAB.out]; simp, congrArg (Value.int .i64) (by rw [(HNX.out 2 _ hd rfl).2]; omega), Eq.mpr (congrArg (Kd.R (Kd.int .i64) 3 _ w.heap.size (fun _ => True) _) (HNX.out 2 _ hd (by omega)).1) hR1, hb1⟩
      case measure => simp only [intOf]; omega
     ·rw [PCode.putUint_big h1] at hdr
      have by1 := byte_at hdr 1 (by simp) (m / 128 % 128 + 128) (by simp; omega)
      obtain ⟨k, hk⟩ : ∃ k : Nat, k = m / 128 % 128 := ⟨_, rfl⟩
      have x1 : k < 128 := by omega
      have x2 : (k : Int) < 128 := by omega
      have x3 : (0 : Int) ≤ (k : Int) := by omega
      have t2 : decide ((128 : Int) ≤ ((k + 128 : Nat) : Int)) = true := decide_eq_true (by omega)
      have t3 : decide (128 ≤ k + 128) = true := decide_eq_true (by omega)
      rw [← hk] at by1
      go_wp2_with fail
      go_round
      case rel => exact .inr (.inr ⟨by omega, congrArg (Value.int .i64) (by omega), rfl⟩)
      case measure => simp [intOf]
    ·have z1 : ((q : Int) + 2) < (s.size : Int) := by omega
     have z2 : (0 : Int) ≤ (q : Int) + 2 := by omega
     have z3 : q + 2 < s.size := by omega
     have h1 : m / 128 / 128 < 128 := by omega
     rw [PCode.putUint_big (show ¬ m < 128 by omega), PCode.putUint_big (show ¬ m / 128 < 128 by omega), PCode.putUint_small h1] at hdr
     have hd : (PCode.putUint m).length = 3 := by rw [PCode.putUint_big (show ¬ m < 128 by omega), PCode.putUint_big (show ¬ m / 128 < 128 by omega), PCode.putUint_small h1]; rfl
     have by2 := byte_at hdr 2 (by simp) (m / 128 / 128) (by simp; omega)
     obtain ⟨k, hk⟩ : ∃ k : Nat, k = m / 128 / 128 := ⟨_, rfl⟩
     rw [← hk] at by2
     have x1 : k < 128 := by omega
     have x2 : (k : Int) < 128 := by omega
     have x3 : (0 : Int) ≤ (k : Int) := by omega
     have t2 : decide ((128 : Int) ≤ (k : Int)) = false := decide_eq_false (by omega)
     have t3 : decide (128 ≤ k) = false := decide_eq_false (by omega)
     go_wp2_with (at_builtin; refine Kd.R_append (Kd.int .i64) (w0 := w) w.heap.size rfl (.tmp 50) (.tmp 52) 53 3 (.int .i64 0) 8 rfl Try.underlying53 infoInt rfl (by decide) (by omega) (.slice A3 xs.length c3) xs _ [.int .i64 _] (fun _ => True) (fun _ => False) rfl rfl (show Kd.M (Kd.int .i64) _ _ _ _ [.int .i64 _] from rfl) (fun _ h => h.elim) (fun _ _ => trivial) hR'.out hB'.out hB'.out.size (by omega) ?_; intro v1 w1 hR1 hb1 _ _)
     go_roundw
     case rel =>
      refine ⟨a ++ [p], b, by rw [HAB.out]; simp, congrArg (Value.int .i64) (by rw [(HNX.out 3 _ hd rfl).2]; omega), Eq.mpr (congrArg (Kd.R (Kd.int .i64) 3 _ w.heap.size (fun _ => True) _) (HNX.out 3 _ hd (by omega)).1) hR1, hb1⟩
     case measure => simp only [intOf]; omega
end Go.Proofs.Ytaigmemmgjlhgaa.Tab
-- TabY
namespace Go.Proofs.Ytaigmemmgjlhgaa.Tab
open Go.RowKit Aid Txt Print PLink Block Bits Go.Proofs.YtaigmemmgjlhgaaW.PrintWords
theorem putUint_form (m : Nat) : ∃ (xs : List UInt8) (y : UInt8), PCode.putUint m = xs ++ [y] ∧ (∀ x ∈ xs, 128 ≤ x.toNat) ∧ y.toNat < 128 := by
 induction m using Nat.strongRecOn with
 | ind m ih =>
  by_cases h : m < 128
  ·exact ⟨[], UInt8.ofNat m, PCode.putUint_small h, (fun _ hx => by cases hx), by rw [PCode.toNat_ofNat_lt (by omega)]; exact h⟩
  ·obtain ⟨xs, y, h1, h2, h3⟩ := ih (m / 128) (by omega)
   refine ⟨UInt8.ofNat (m % 128 + 128) :: xs, y, by rw [PCode.putUint_big h, h1]; rfl, ?_, h3⟩
   intro x hx
   rcases List.mem_cons.1 hx with rfl | hx
   ·simp; omega
   ·exact h2 x hx
structure Spot (C : List Nat) (s : ByteArray) (P : Nat → Nat → Prop) (k st fr en : Nat) : Prop where
 en_ : C.getD k 0 = en
 st_ : 0 < k → C.getD (k - 1) 0 = st
 st0 : k = 0 → st = 0
 head : k + 1 < C.length → ∃ h, fr = st + h + 1 ∧ (∀ j, j < h → ∃ c, 128 ≤ c ∧ ∀ hlt : st + j < s.size, (s[st + j]'hlt).toNat = c) ∧ ∃ c, c < 128 ∧ ∀ hlt : st + h < s.size, (s[st + h]'hlt).toNat = c
 foot : k + 1 = C.length → fr = st
 room : fr + 4 ≤ en
 top : en ≤ s.size
 le : st ≤ fr
 turn : ∀ K, K + 32 ≤ 8 * (en - fr) → P fr K
section
variable {l : List S28} {B R Q : Int}
abbrev ldsT (l : List S28) (B R Q : Int) : List (List UInt8) := PTable.loads R (PTable.chunks (l.map rowS) B R) (filt l Q)
theorem Built.form (h : Built l B R Q) : ∃ FT : List UInt8, FT.length = 20 ∧ (tab l B R Q).1 = PTable.frames (ldsT l B R Q) ++ FT := by
 refine ⟨PTable.foot (PTable.bodyOf R (PTable.chunks (l.map rowS) B R)).length ((PTable.bodyOf R (PTable.chunks (l.map rowS) B R)).length + (PFrame.put (filt l Q)).1.length), PTable.foot_length _ _, ?_⟩
 rw [h.txt, PTable.whole_frames]
theorem lds_two : 2 ≤ (ldsT l B R Q).length := by
 show 2 ≤ (PTable.loads _ _ _).length
 unfold PTable.loads
 rw [List.length_append]
 simp
theorem getD_of {C : List Nat} {k v : Nat} (h : C[k]? = some v) : C.getD k 0 = v := by
 rw [List.getD_eq_getElem?_getD, h]
 rfl
theorem ends_prev {ps a : List (List UInt8)} {b : List (List UInt8)} (hps : ps = a ++ b) (ha : a ≠ []) (x : Nat) : (endsF 0 ps ++ [x]).getD (a.length - 1) 0 = (PTable.frames a).length := by
 have hd := List.dropLast_concat_getLast ha
 generalize a.dropLast = a' at hd
 generalize a.getLast ha = p' at hd
 subst hd
 subst hps
 rw [List.length_append, List.length_singleton, Nat.add_sub_cancel, List.append_assoc]
 apply getD_of
 have h := endsF_at a' p' b 0
 rw [List.getElem?_append_left (by rw [q17]; simp)]
 rw [show a' ++ ([p'] ++ b) = a' ++ p' :: b from rfl, h, PTable.frames_append, List.length_append, PTable.frames_cons]
 simp [PTable.frames]
theorem spots (h : Built l B R Q) (v : BitVec 32) (hv : v ≠ 0) (k : Nat) (hk : k < (endsF 0 (ldsT l B R Q) ++ [(tab l B R Q).1.length]).length) :
  ∃ st fr en, Spot (endsF 0 (ldsT l B R Q) ++ [(tab l B R Q).1.length]) (Txt.B (tab l B R Q).1) (fun fr K => HurtT l B R Q (flips (v.toNat : Int) fr K (tab l B R Q).1 32)) k st fr en := by
 obtain ⟨FT, hft, hform⟩ := h.form
 have hlen : (tab l B R Q).1.length = (PTable.frames (ldsT l B R Q)).length + 20 := by rw [hform, List.length_append, hft]
 have hn : (endsF 0 (ldsT l B R Q) ++ [(tab l B R Q).1.length]).length = (ldsT l B R Q).length + 1 := by rw [List.length_append, q17]; rfl
 by_cases hlast : k = (ldsT l B R Q).length
 ·refine ⟨(PTable.frames (ldsT l B R Q)).length, (PTable.frames (ldsT l B R Q)).length, (tab l B R Q).1.length, ?_, ?_, ?_, ?_, fun _ => rfl, by omega, by rw [q0o]; omega, by omega, ?_⟩
  ·apply getD_of
   rw [List.getElem?_append_right (by rw [q17]; omega), q17, hlast, Nat.sub_self]
   rfl
  ·intro _
   have := ends_prev (ps := ldsT l B R Q) (a := ldsT l B R Q) (b := []) (by simp) (by have := lds_two (l := l) (B := B) (R := R) (Q := Q); intro e; rw [e] at this; simp at this) (tab l B R Q).1.length
   rw [hlast]
   exact this
  ·intro h0
   have := lds_two (l := l) (B := B) (R := R) (Q := Q)
   omega
  ·intro hlt
   omega
  ·intro K hK
   exact hurt_flip_foot h v hv K (by omega)
 ·have hlt : k < (ldsT l B R Q).length := by omega
  obtain ⟨a, p, b, hsp, hal⟩ : ∃ a p b, ldsT l B R Q = a ++ p :: b ∧ a.length = k := ⟨(ldsT l B R Q).take k, (ldsT l B R Q)[k], (ldsT l B R Q).drop (k + 1), by rw [← List.drop_eq_getElem_cons hlt, List.take_append_drop], by rw [List.length_take]; omega⟩
  have hp : p.length ≤ 65536 := loads_small h p (by rw [show PTable.loads R (PTable.chunks (l.map rowS) B R) (filt l Q) = ldsT l B R Q from rfl, hsp]; simp)
  have hpl : (PFrame.put p).1.length = (PCode.putUint p.length).length + p.length + 4 := by rw [PFrame.put_ok hp]; simp [PCode.putField, PFrame.seal_length]; omega
  have hfl : (PTable.frames (ldsT l B R Q)).length = (PTable.frames a).length + (PFrame.put p).1.length + (PTable.frames b).length := by
   rw [hsp, PTable.frames_append, PTable.frames_cons, List.length_append, List.length_append]
   omega
  refine ⟨(PTable.frames a).length, (PTable.frames a).length + (PCode.putUint p.length).length, (PTable.frames a).length + (PFrame.put p).1.length, ?_, ?_, ?_, ?_, ?_, by omega, by rw [q0o]; omega, by omega, ?_⟩
  ·apply getD_of
   rw [List.getElem?_append_left (by rw [q17]; omega), ← hal, hsp, endsF_at, Nat.zero_add]
  ·intro h0
   have := ends_prev (ps := ldsT l B R Q) (a := a) (b := p :: b) hsp (by intro e; rw [e] at hal; simp at hal; omega) (tab l B R Q).1.length
   rw [hal] at this
   exact this
  ·intro h0
   have : a = [] := List.eq_nil_of_length_eq_zero (by omega)
   rw [this]
   rfl
  ·intro _
   obtain ⟨xs, y, hxy, hx, hy⟩ := putUint_form p.length
   have hdr : (L (Txt.B (tab l B R Q).1)).drop (PTable.frames a).length = (xs ++ [y]) ++ (p ++ (PFrame.mark (PCode.putField p) ++ (PTable.frames b ++ FT))) := by
    rw [L_B, hform, hsp, PTable.frames_append, PTable.frames_cons, List.append_assoc, List.drop_left, PFrame.put_ok hp]
    unfold PCode.putField
    rw [hxy]
    simp
   refine ⟨xs.length, by rw [hxy, List.length_append, List.length_singleton]; omega, ?_, ?_⟩
   ·intro j hj
    refine ⟨((xs ++ [y]).getD j 0).toNat, ?_, byte_at hdr j (by rw [List.length_append]; omega) _ rfl⟩
    rw [List.getD_eq_getElem?_getD, List.getElem?_append_left hj, List.getElem?_eq_getElem hj]
    exact hx _ (List.getElem_mem hj)
   ·refine ⟨((xs ++ [y]).getD xs.length 0).toNat, ?_, byte_at hdr xs.length (by rw [List.length_append]; simp) _ rfl⟩
    rw [List.getD_eq_getElem?_getD, List.getElem?_append_right (Nat.le_refl _), Nat.sub_self]
    exact hy
  ·intro h0
   omega
  ·intro K hK
   exact hurt_flip h a b p hsp v hv K (by omega)
end
theorem ints_get {w : World} {A : Option Addr} {n : Nat} {l : List Int} (h : Kd.C (Kd.int .i64) w A n l) (i : Nat) (hi : i < l.length) : ∃ ad, A = some ad ∧ w.cell? (ad.add i) = some (.int .i64 (l.getD i 0)) := by
 obtain ⟨ad, c, rfl, _, hR, hc⟩ := ReadsRow.get_ h (0 : Int) (i : Int) (by omega) (by have := h.1; omega)
 have e : c = [.int .i64 (l.getD i 0)] := hR
 subst e
 have := hc 0 _ rfl
 simp only [Int.toNat_natCast] at this
 have hz : (Kd.int .i64).sz = 1 := rfl
 rw [hz, Nat.mul_one, Nat.add_zero] at this
 exact ⟨ad, rfl, this⟩
theorem nums_get (C : List Nat) (i : Nat) (hi : i < C.length) : (nums C).getD i 0 = ((C.getD i 0 : Nat) : Int) := by
 rw [List.getD_eq_getElem?_getD, List.getD_eq_getElem?_getD, List.getElem?_map, List.getElem?_eq_getElem hi]
 rfl
end Go.Proofs.Ytaigmemmgjlhgaa.Tab
-- TabX
namespace Go.Proofs.Ytaigmemmgjlhgaa.Tab
open Go.RowKit Aid Txt Print PLink Block Bits Go.Proofs.YtaigmemmgjlhgaaW.PrintWords
abbrev prtT (l : List S28) (B R : Int) : List PTable.Part := PTable.partsW R 0 (PTable.chunks (l.map rowS) B R)
def LainH (w : World) (b : Nat) (l : List S28) (B R Q : Int) (S : List UInt8) : Prop := ∃ A c, At w b (Txt.B S) (Txt.B (filt l Q)) A c ((prtT l B R).map partB)
section
variable {w w' : World} {b : Nat} {l : List S28} {B R Q : Int} {S : List UInt8}
theorem LainH.below (h : LainH w b l B R Q S) (hb : Below w.heap.size w w') : LainH w' b l B R Q S := by
 obtain ⟨A, c, h⟩ := h
 exact ⟨A, c, h.below hb⟩
theorem hurt_get (hB : Built l B R Q) (hs : PTable.Shows (fun p d => PTable.readT S p = some d ∨ PTable.readT S p = none) (prtT l B R) (PTable.chunks (l.map rowS) B R)) (i : Nat) (hi : i < l.length) :
  PTable.get hasB ⟨S, filt l Q, prtT l B R⟩ (rowS l[i]).key (rowS l[i]).seq = (rowS l[i], true, 0) ∨ PTable.get hasB ⟨S, filt l Q, prtT l B R⟩ (rowS l[i]).key (rowS l[i]).seq = (PTable.zeroRow, false, 10) := by
 have ho : PBlock.order (l.map rowS) = true := (q1m hB.rt).2.2.2.2.2.2.1
 have hown := PTable.hv_own ho (i := i) (by rw [List.length_map]; exact hi)
 rw [List.getElem_map] at hown
 have h := PTable.get_shows hasB S (filt l Q) (prtT l B R) _ hs hB.order (rowS l[i]).key (rowS l[i]).seq (hB.has _ (List.mem_map_of_mem (List.getElem_mem hi)))
 rw [PTable.chunks_flat, hown] at h
 rcases h with h | h
 ·exact .inl h
 ·exact .inr h.1
theorem liesH (hB : Built l B R Q) (hS : S.length = (tab l B R Q).1.length) : ∀ p ∈ prtT l B R, Lies (Txt.B S).size p := by
 have h := hB.lies
 rw [← hS] at h
 rw [q0o]
 exact h
theorem fewH (hB : Built l B R Q) : (prtT l B R).length ≤ 400 := hB.parts_few
theorem GetH (hB : Built l B R Q) (hS : S.length = (tab l B R Q).1.length) (h : LainH w b l B R Q S) (x : S28) (hx : x ∈ l) (hk : x.f0.size ≤ 9223372036854775807) (n : Nat) :
  Calls Try.prog 9 #[.pointer (some ⟨b, 0, none⟩), .string x.f0, .int .u64 n] w fun e w' => e = .returned (getV (PTable.get hasB ⟨S, filt l Q, prtT l B R⟩ (L x.f0) n)) ∧ Below w.heap.size w w' := by
 obtain ⟨A, c, h⟩ := h
 have hsz := hB.size
 exact Get_any h (by rw [q0o]; omega) (liesH hB hS) (by have := fewH hB; omega) x.f0 hk n (hB.has (rowS x) (List.mem_map_of_mem hx))
theorem ScanH (hB : Built l B R Q) (hS : S.length = (tab l B R Q).1.length) (hbad : ∃ p ∈ prtT l B R, PTable.readT S p = none) (h : LainH w b l B R Q S) :
  Calls Try.prog 10 #[.pointer (some ⟨b, 0, none⟩), .string ⟨#[]⟩, .string ⟨#[]⟩] w fun e w' => ∃ A c, e = .returned (.tuple #[.slice A 0 c, .int .i64 10]) ∧ Below w.heap.size w w' := by
 obtain ⟨A, c, h⟩ := h
 have hsz := hB.size
 have h1 := Scan_any h (by rw [q0o]; omega) (liesH hB hS) (by have := fewH hB; omega) ⟨#[]⟩ ⟨#[]⟩
 have he : PTable.scan ⟨L (Txt.B S), L (Txt.B (filt l Q)), prtT l B R⟩ (L (⟨#[]⟩ : ByteArray)) (L (⟨#[]⟩ : ByteArray)) = ([], 10) := PTable.scan_bad S (filt l Q) (prtT l B R) hbad
 rw [he] at h1
 refine h1.mono ?_
 rintro e w' ⟨v, h2, h3, h4⟩
 obtain ⟨A', c', rfl⟩ := Kd.R_slice h3
 exact ⟨A', c', h2, h4⟩
theorem openH (hS : S.length ≤ 262144) (hu : HurtT l B R Q S) :
  (∀ w, Calls Try.prog 17 #[.string (Txt.B S)] w fun e w' => e = .returned (.tuple #[.pointer none, .int .i64 10]) ∧ Below w.heap.size w w') ∨
  ((PTable.Shows (fun p d => PTable.readT S p = some d ∨ PTable.readT S p = none) (prtT l B R) (PTable.chunks (l.map rowS) B R) ∧ ∃ p ∈ prtT l B R, PTable.readT S p = none) ∧
   ∀ w, Calls Try.prog 17 #[.string (Txt.B S)] w fun e w' => ∃ b, e = .returned (.tuple #[.pointer (some ⟨b, 0, none⟩), .int .i64 0]) ∧ LainH w' b l B R Q S ∧ Below w.heap.size w w') := by
 rcases hu with h | ⟨h, h2, h3⟩
 ·left
  intro w
  have ho := open_any (Txt.B S) w (by rw [q0o]; omega)
  rw [L_B, h] at ho
  exact ho
 ·right
  refine ⟨⟨h2, h3⟩, fun w => ?_⟩
  have ho := open_any (Txt.B S) w (by rw [q0o]; omega)
  rw [L_B, h] at ho
  refine ho.mono ?_
  rintro e w' ⟨⟨b, A, c, rfl, h1, _⟩, h4⟩
  exact ⟨b, rfl, ⟨A, c, h1⟩, h4⟩
end
end Go.Proofs.Ytaigmemmgjlhgaa.Tab
