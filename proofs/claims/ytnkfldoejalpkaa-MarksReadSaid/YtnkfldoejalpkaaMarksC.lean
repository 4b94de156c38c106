/- Marks: a source becomes another one. -/
import Derived.Test.YtnkfldoejalpkaaMarksE
import Derived.Test.YtnkfldoejalpkaaMarksL
import Derived.Deep.WholeRow
namespace Go.Proofs.Ytnkfldoejalpkaa.Marks
open Go.RowKit Aid PMarks
theorem srcs_cells (l : List Src) : ∀ v ∈ srcs l, v.oneCell' = true := by
  intro v hv
  obtain ⟨x, _, hx⟩ := List.mem_flatMap.1 hv
  simp only [List.mem_cons, List.not_mem_nil, or_false] at hx
  rcases hx with rfl | rfl <;> rfl
/-- the worlds behind the copy of all sources -/
structure Snap (w W2 : World) (b c0 c1 : Nat) (s : St) (x : Src) : Prop where
  held : Held W2 b s
  m : W2.cell? ⟨c0, 0, none⟩ = some (.int .i64 x.1)
  i : W2.cell? ⟨c0, 1, none⟩ = some (.bool x.2)
  copy : W2.rangeAt c1 0 (srcs (full s.l))
  grown : w.grownBy W2 (some b)
  ne1 : c1 ≠ b
  ne0 : c0 ≠ b
theorem snap_of {w W2 : World} {b : Nat} {s : St} {x : Src} {z : Array Value} {t : TypeId} (hW : ((w.alloc (.cells #[.int .i64 x.1, .bool x.2] 42)).alloc (.cells z t)).setRow (w.heap.size + 1) (srcs (full s.l)).toArray = W2) (h : Held w b s) : Snap w W2 b w.heap.size (w.heap.size + 1) s x := by
  subst hW
  have hlt := h.lt
  have e1 : ((w.alloc (.cells #[.int .i64 x.1, .bool x.2] 42)).alloc (.cells z t)).setRow (w.heap.size + 1) (srcs (full s.l)).toArray = (w.alloc (.cells #[.int .i64 x.1, .bool x.2] 42)).alloc (.cells (srcs (full s.l)).toArray t) := by
    have := World.setRow_alloc_new (w.alloc (.cells #[.int .i64 x.1, .bool x.2] 42)) z (srcs (full s.l)).toArray t
    have hs : (w.alloc (.cells #[.int .i64 x.1, .bool x.2] 42)).heap.size = w.heap.size + 1 := by simp
    rw [hs] at this
    exact this
  rw [e1]
  have hb : Below w.heap.size w ((w.alloc (.cells #[.int .i64 x.1, .bool x.2] 42)).alloc (.cells (srcs (full s.l)).toArray t)) :=
    ((Below.refl _ _).alloc (Nat.le_refl _) _).alloc (by simp) _
  have n0 := heap_alloc2_old w (.cells #[.int .i64 x.1, .bool x.2] 42) (.cells (srcs (full s.l)).toArray t)
  have n1 := heap_alloc2_new w (.cells #[.int .i64 x.1, .bool x.2] 42) (.cells (srcs (full s.l)).toArray t)
  refine ⟨h.below hb hlt, ?_, ?_, ?_, only_of_below hb _, by omega, by omega⟩
  · exact cell_of_row _ _ 0 _ _ _ n0
  · exact cell_of_row _ _ 1 _ _ _ n0
  · intro j v hv
    rw [Nat.zero_add, cell_of_row _ _ j _ _ _ n1]
    simpa using hv
theorem full_set (l : List Src) (k : Nat) (x : Src) (hk : k < l.length) : full (l.set k x) = (full l).set k x := by
  unfold full
  rw [List.length_set, List.set_append, if_pos hk]
theorem full_inj {l m : List Src} (hl : l.length = m.length) (h : full l = full m) : l = m := by
  unfold full at h
  rw [hl] at h
  exact List.append_cancel_right h
theorem src_set (l : List Src) (k j : Nat) (x : Src) (hk : k < l.length) : src (l.set k x) j = if j = k then x else src l j := by
  unfold src
  rw [full_set l k x hk, List.getD_eq_getElem?_getD, List.getElem?_set]
  have hf : k < (full l).length := by unfold full; rw [List.length_append]; omega
  by_cases e : k = j
  · subst e; rw [if_pos rfl, if_pos hf, if_pos rfl]; rfl
  · rw [if_neg e, if_neg (fun h => e h.symm), List.getD_eq_getElem?_getD]
theorem cell_off {w : World} {b o p : Nat} {u v : Value} (hne : o ≠ p) (h : w.cell? ⟨b, o, none⟩ = some v) : (w.setCell ⟨b, p, none⟩ u).cell? ⟨b, o, none⟩ = some v :=
  (World.cell?_setCell_other _ _ _ _ (fun e => hne (by injection e with _ e; exact e.symm))).trans h
theorem Held.store {w : World} {b k : Nat} {s : St} (h : Held w b s) (x : Src) (hk : k < s.l.length) : Held ((w.setCell ⟨b, 2 + k * 2, none⟩ (.int .i64 x.1)).setCell ⟨b, 2 + k * 2 + 1, none⟩ (.bool x.2)) b { s with l := s.l.set k x } := by
  have hle := h.le
  refine ⟨?_, ?_, fun j hj => ?_, fun j hj => ?_, ?_, fun j hj => ?_, by simpa using hle⟩
  · show _ = some (Value.int .i64 ((s.l.set k x).length : Int))
    rw [List.length_set]
    exact cell_off (by omega) (cell_off (by omega) h.n)
  · exact cell_off (by omega) (cell_off (by omega) h.bound)
  · show _ = some (Value.int .i64 (src (s.l.set k x) j).1)
    rw [src_set _ _ _ _ hk]
    by_cases e : j = k
    · subst e
      rw [if_pos rfl]
      refine cell_off (by omega) ?_
      exact World.cell?_setCell_same _ _ _ (h.mark j hj)
    · rw [if_neg e]
      exact cell_off (by omega) (cell_off (by omega) (h.mark j hj))
  · show _ = some (Value.bool (src (s.l.set k x) j).2)
    rw [src_set _ _ _ _ hk]
    by_cases e : j = k
    · subst e
      rw [if_pos rfl]
      exact World.cell?_setCell_same _ _ _ (cell_off (by omega) (h.idle j hj))
    · rw [if_neg e]
      exact cell_off (by omega) (cell_off (by omega) (h.idle j hj))
  · exact cell_off (by omega) (cell_off (by omega) h.now)
  · rw [World.frozen?_setCell, World.frozen?_setCell]
    exact h.free j hj
theorem Held.setNow {w : World} {b : Nat} {s : St} (h : Held w b s) (t : Int) : Held (w.setCell ⟨b, 34, none⟩ (.int .i64 t)) b { s with now := t } :=
  ⟨cell_off (by omega) h.n, cell_off (by omega) h.bound, fun j hj => cell_off (by omega) (h.mark j hj), fun j hj => cell_off (by omega) (h.idle j hj), World.cell?_setCell_same _ _ _ h.now,
   fun j hj => by rw [World.frozen?_setCell]; exact h.free j hj, h.le⟩
theorem change_any (b k : Nat) (s : St) (x : Src) (w : World) (h : Held w b s) (hk : k < s.l.length) (hok : Ok s) :
    Calls Try.prog 26 #[.pointer (some ⟨b, 0, none⟩), .int .i64 k, .agg #[.int .i64 x.1, .bool x.2]] w fun e w' => e = .returned (.tuple #[]) ∧ Held w' b (put s k x) ∧ w.grownBy w' (some b) := by
  have hlt := h.lt
  have hlen := full_length s.l h.le
  have H1 := (h.below ((Below.refl w.heap.size w).alloc (Nat.le_refl _) (.cells #[.int .i64 x.1, .bool x.2] 42)) hlt)
  have HR := H1.range
  have hz : (Try.prog.info? 43).map (·.size) = some (srcs (full s.l)).length := by rw [srcs_length, hlen]; exact infoSrcs
  have HZ := Lib.hid hz
  have HR2 := Lib.hid HR
  clear HR hz
  go_enter Try.func26, Try.ntmps26
  have HO := Lib.hid (show (srcs (full s.l)).toArray.all (·.oneCell') = true from all_oneCell_toArray (srcs_cells _))
  have hsz : (srcs (full s.l)).toArray.size = 32 := by rw [List.size_toArray, srcs_length, hlen]
  have HT := Lib.hid hsz
  clear hsz
  go_wp2_with (first | (refine wpList_load_mid rfl _ _ rfl b 2 rfl (srcs (full s.l)) _ HR2.out Try.underlying43 rfl HZ.out ?_) | (refine wpList_store_row rfl _ _ _ rfl (w.heap.size + 1) (srcs (full s.l)).toArray rfl rfl 43 _ (heap_alloc2_new _ _ _) (by rw [HT.out]; exact infoSrcs) (by rw [HT.out]; rfl) HO.out ?_))
  simp only [Act.put]
  generalize hW2 : World.setRow _ _ _ = W2
  have F := snap_of hW2 h
  have m0 := F.m
  have i0 := F.i
  have mk := F.held.mark k (by have := h.le; omega)
  have ik := F.held.idle k (by have := h.le; omega)
  have fk := F.held.free (2 + k * 2) (by have := h.le; omega)
  have fk2 := F.held.free (2 + k * 2 + 1) (by have := h.le; omega)
  have k0 : (k : Int) < 16 := by have := h.le; omega
  have k1 : 0 ≤ (k : Int) := by omega
  have HF := Lib.hid F
  clear F hW2 H1
  generalize w.heap.size = c0 at m0 i0 HF hlt ⊢
  go_region
  go_wp2_with fail
  clear m0 i0 mk ik fk fk2
  have h3 := HF.out.held.store x hk
  have g3 : w.grownBy ((W2.setCell ⟨b, 2 + k * 2, none⟩ (.int .i64 x.1)).setCell ⟨b, 2 + k * 2 + 1, none⟩ (.bool x.2)) (some b) := only_set (only_set HF.out.grown (.inl rfl) _) (.inl rfl) _
  have r3 : ((W2.setCell ⟨b, 2 + k * 2, none⟩ (.int .i64 x.1)).setCell ⟨b, 2 + k * 2 + 1, none⟩ (.bool x.2)).rangeAt (c0 + 1) 0 (srcs (full s.l)) := fun j v hv => by
    have hne := HF.out.ne1
    rw [World.cell?_setCell_other _ _ _ _ (fun e => hne (by injection e with e _; exact e.symm)), World.cell?_setCell_other _ _ _ _ (fun e => hne (by injection e with e _; exact e.symm))]
    exact HF.out.copy j v hv
  replace h3 : Held ((W2.setCell ⟨b, 2 + k * 2, none⟩ (.int .i64 x.1)).setCell ⟨b, 2 + k * 2 + 1, none⟩ (.bool x.2)).drew b _ := h3.of_block rfl
  replace g3 : w.grownBy ((W2.setCell ⟨b, 2 + k * 2, none⟩ (.int .i64 x.1)).setCell ⟨b, 2 + k * 2 + 1, none⟩ (.bool x.2)).drew (some b) := only_drew g3
  replace r3 : ((W2.setCell ⟨b, 2 + k * 2, none⟩ (.int .i64 x.1)).setCell ⟨b, 2 + k * 2 + 1, none⟩ (.bool x.2)).drew.rangeAt (c0 + 1) 0 (srcs (full s.l)) := r3
  generalize ((W2.setCell ⟨b, 2 + k * 2, none⟩ (.int .i64 x.1)).setCell ⟨b, 2 + k * 2 + 1, none⟩ (.bool x.2)).drew = W3 at h3 g3 r3 ⊢
  have len3 : (full (s.l.set k x)).length = 16 := full_length _ h3.le
  have z3 : (Try.prog.info? 43).map (·.size) = some (srcs (full (s.l.set k x))).length := by rw [srcs_length, len3]; exact infoSrcs
  have H3 := Lib.hid h3
  have R3 := Lib.hid r3
  have R4 := Lib.hid h3.range
  have Z3 := Lib.hid z3
  have G3 := Lib.hid g3
  clear h3 r3 z3 g3
  refine wp_region_quiet_lit (by kernel_rfl) (by kernel_rfl) ?_
  refine BigFrame.wpQuiet_want rfl (fun K hK => ?_)
  refine quiet_load_mid 43 _ rfl (c0 + 1) 0 rfl (srcs (full s.l)) _ (by rintro _ ⟨n, rfl⟩; exact R3.out) Try.underlying43 rfl HZ.out ?_
  refine hK _ ?_
  clear hK K
  quiet_step (fail)
  quiet_step (fail)
  quiet_step (fail)
  refine BigFrame.wpQuiet_want rfl (fun K hK => ?_)
  refine quiet_load_mid 43 _ rfl b 2 rfl (srcs (full (s.l.set k x))) _ (by rintro _ ⟨n, rfl⟩; exact R4.out) Try.underlying43 rfl Z3.out ?_
  refine hK _ ?_
  clear hK K
  refine BigFrame.wpQuiet_want rfl (fun K hK => ?_)
  refine quiet_eql_srcs _ _ rfl (full s.l) (full (s.l.set k x)) hlen len3 rfl rfl ?_
  refine hK _ ?_
  clear hK K
  refine wpQuiet_nil ?_
  rintro _ ⟨nq, rfl⟩
  simp only [Act.put]
  by_cases hsame : s.l.set k x = s.l
  · have hd : decide (full s.l = full (s.l.set k x)) = true := decide_eq_true (by rw [hsame])
    rw [hd]
    have HP := Lib.hid (put_same hok hsame)
    have HS := Lib.hid hsame
    clear hd hsame
    go_wp2_with fail
    refine bodyPost_ret (v := .tuple #[]) (by simp [results, Try.results26, go_sem]) rfl ⟨rfl, ?_, only_drewN G3.out nq⟩
    rw [HP.out]
    have e : ({ s with l := s.l.set k x } : St) = s := by rw [HS.out]
    have := H3.out
    rw [e] at this
    exact this.of_block rfl
  · have hd : decide (full s.l = full (s.l.set k x)) = false := decide_eq_false (fun e => hsame (full_inj (by rw [List.length_set]) e).symm)
    rw [hd]
    clear hd hsame
    have HL := Lib.hid (least_any b { s with l := s.l.set k x } (W3.drewN nq) (H3.out.of_block rfl))
    go_wp2_with fail
    refine (HL.out).mono ?_
    rintro e w4 ⟨rfl, hb4⟩
    have h4 := (H3.out.of_block (w' := W3.drewN nq) rfl).below hb4 H3.out.lt
    have g4 : w.grownBy w4 (some b) := only_trans (only_drewN G3.out nq) (only_of_below hb4 _)
    clear HL hb4
    have now4 := h4.now
    have free4 := h4.free 34 (by omega)
    have H4 := Lib.hid h4
    have G4 := Lib.hid g4
    clear h4 g4
    cases ho : least (s.l.set k x) with
    | none =>
      have HP := Lib.hid (show put s k x = { s with l := s.l.set k x } by unfold put; rw [ho]; rfl)
      clear ho
      go_wp2_with fail
      go_end0
      refine ⟨rfl, ?_, G4.out⟩
      rw [HP.out]
      exact H4.out
    | some y =>
      have HP := Lib.hid (show put s k x = { s with l := s.l.set k x, now := if s.now < y then y else s.now } by unfold put; rw [ho]; rfl)
      clear ho
      by_cases hy : s.now < y
      · go_wp2_with fail
        go_end0
        refine ⟨rfl, ?_, only_set G4.out (.inl rfl) _⟩
        rw [HP.out, if_pos hy]
        exact H4.out.setNow y
      · go_wp2_with fail
        go_end0
        refine ⟨rfl, ?_, only_set G4.out (.inl rfl) _⟩
        rw [HP.out, if_neg (by omega)]
        exact H4.out.setNow s.now
end Go.Proofs.Ytnkfldoejalpkaa.Marks
