/- Marks: sixteen sources, by value: read out of a block, held against others. -/
import Derived.Test.YtnkfldoejalpkaaMarks
import Derived.Laws.StructEq
import Derived.Deep.Quiet
namespace Go.Proofs.Ytnkfldoejalpkaa.Marks
open Go.RowKit Aid PMarks
def srcs (l : List Src) : List Value := l.flatMap fun x => [.int .i64 x.1, .bool x.2]
theorem srcs_length (l : List Src) : (srcs l).length = 2 * l.length := by
  induction l with
  | nil => rfl
  | cons a l ih => unfold srcs at ih ⊢; rw [List.flatMap_cons, List.length_append, ih]; simp; omega
theorem srcs_cons (a : Src) (l : List Src) : srcs (a :: l) = .int .i64 a.1 :: .bool a.2 :: srcs l := rfl
theorem srcs_two (l : List Src) : ∀ (i : Nat) (h : i < l.length), ((srcs l).drop (i * 2)).take 2 = [.int .i64 l[i].1, .bool l[i].2] := by
  induction l with
  | nil => intro i h; cases h
  | cons a l ih =>
    intro i h
    cases i with
    | zero => rfl
    | succ i =>
      rw [srcs_cons, show (i + 1) * 2 = i * 2 + 1 + 1 by omega, List.drop_succ_cons, List.drop_succ_cons]
      exact ih i (by simpa using h)
theorem srcs_one (l : List Src) : ∀ (j : Nat) (v : Value), (srcs l)[j]? = some v → ∃ k, k < l.length ∧ ((j = k * 2 ∧ v = .int .i64 (l.getD k (0, false)).1) ∨ (j = k * 2 + 1 ∧ v = .bool (l.getD k (0, false)).2)) := by
  induction l with
  | nil => intro j v h; simp [srcs] at h
  | cons a l ih =>
    intro j v h
    rw [srcs_cons] at h
    match j, h with
    | 0, h => exact ⟨0, by simp, .inl ⟨rfl, by simpa using h.symm⟩⟩
    | 1, h => exact ⟨0, by simp, .inr ⟨rfl, by simpa using h.symm⟩⟩
    | j + 2, h =>
      obtain ⟨k, hk, e⟩ := ih j v (by simpa using h)
      refine ⟨k + 1, by simpa using hk, ?_⟩
      rcases e with ⟨rfl, e⟩ | ⟨rfl, e⟩
      · exact .inl ⟨by omega, by simpa using e⟩
      · exact .inr ⟨by omega, by simpa using e⟩
theorem all_range_eq : ∀ (xs ys : List Src), xs.length = ys.length → ((List.range xs.length).all fun i => decide (xs.getD i (0, false) = ys.getD i (0, false))) = decide (xs = ys)
  | [], [], _ => rfl
  | x :: xs, y :: ys, h => by
    have ih := all_range_eq xs ys (by simpa using h)
    rw [List.length_cons, List.range_succ_eq_map, List.all_cons, List.all_map]
    simp only [List.getD_cons_zero, Function.comp_def, List.getD_cons_succ, ih]
    rw [Bool.eq_iff_iff]
    simp
  | [], _ :: _, h => by simp at h
  | _ :: _, [], h => by simp at h
theorem sizeSrc (w : World) : (sizeOf 42).run Try.prog w = .ok 2 w := by kernel_rfl
theorem aggSrc (w : World) : (isAgg 42).run Try.prog w = .ok true w := by kernel_rfl
theorem fieldsSrc : Try.prog.underlying 42 = some (.struct (Try.prog.fieldsOf 42)) := by kernel_rfl
theorem stoodSrc : Try.prog.stoodInHeld 42 = false := by kernel_rfl
theorem part_src (w : World) (l : List Src) (i : Nat) (h : i < l.length) : (part 42 (srcs l).toArray (i * 2)).run Try.prog w = .ok (.agg #[.int .i64 (l.getD i (0, false)).1, .bool (l.getD i (0, false)).2]) w := by
  have e : ((srcs l).toArray.extract (i * 2) (i * 2 + 2)) = #[.int .i64 (l.getD i (0, false)).1, .bool (l.getD i (0, false)).2] := by
    have hl := srcs_two l i h
    rw [List.getD_eq_getElem?_getD, List.getElem?_eq_getElem h]
    apply Array.toList_inj.1
    rw [Array.toList_extract, List.extract, show i * 2 + 2 - i * 2 = 2 by omega]
    exact hl
  simp only [part, Sem.run_bind, aggSrc, Result.andThen_ok, if_true, sizeSrc, e, Sem.run_pure]
theorem equal_src (w : World) (d : Nat) (x y : Src) : (Op.equalIn (d + 2) 42 (.agg #[.int .i64 x.1, .bool x.2]) (.agg #[.int .i64 y.1, .bool y.2])).run Try.prog w = .ok (decide (x = y)) w := by
  rw [run_equalIn_struct w (d + 1) 42 _ _ fieldsSrc stoodSrc]
  have h1 : ∀ (w : World) (v u : Value), (part 2 #[v, u] 0).run Try.prog w = .ok v w := fun w v u => by kernel_rfl
  have h2 : ∀ (w : World) (v u : Value), (part 4 #[v, u] 1).run Try.prog w = .ok u w := fun w v u => by kernel_rfl
  have e1 := fun (w : World) => run_equalIn_int (P := Try.prog) w d 2 .i64 .i64 x.1 y.1 Try.underlying2
  have e2 := fun (w : World) => run_equalIn_bool' (P := Try.prog) w d 4 x.2 y.2 Try.underlying4
  obtain ⟨a, b⟩ := x
  obtain ⟨a', b'⟩ := y
  have hfg : (Try.prog.fieldsOf 42).toList = [⟨"mark", 2, 0, false, "", "freshet/marks", 0⟩, ⟨"idle", 4, 1, false, "", "freshet/marks", 8⟩] := by
    unfold Program.fieldsOf
    rw [Try.underlying42]
  rw [hfg]
  simp only [Op.eqFields, if_pos (show ("mark" : String) ≠ "_" by decide), if_pos (show ("idle" : String) ≠ "_" by decide), Sem.run_bind, h1, h2, Result.andThen_ok, e1, e2, Sem.run_ite, Sem.run_pure]
  by_cases ha : a = a'
  · by_cases hb : b = b'
    · subst ha hb; simp
    · subst ha; simp [hb]
  · simp [ha]
theorem equal_srcs (w : World) (d : Nat) (xs ys : List Src) (hx : xs.length = 16) (hy : ys.length = 16) :
    (Op.equalIn (d + 3) 43 (.agg (srcs xs).toArray) (.agg (srcs ys).toArray)).run Try.prog w = .ok (decide (xs = ys)) w := by
  rw [← all_range_eq xs ys (hx.trans hy.symm), hx, List.range_eq_range', Op.equalIn]
  simp only [Sem.run_bind, run_underlying Try.underlying43, Result.andThen_ok, sizeSrc, Std.Legacy.Range.forIn_eq_forIn_range', Std.Legacy.Range.size, Nat.sub_zero, Nat.add_sub_cancel, Nat.div_one]
  have hl : ∀ i ∈ List.range' 0 16 1, i < 16 := fun i hi => by simpa using (List.mem_range'_1.1 hi).2
  generalize List.range' 0 16 1 = l at hl ⊢
  induction l with
  | nil => simp
  | cons i l ih =>
    have hi : i < 16 := hl i (by simp)
    have px := part_src w xs i (by omega)
    have py := part_src w ys i (by omega)
    have pe := equal_src w d (xs.getD i (0, false)) (ys.getD i (0, false))
    simp only [List.forIn_cons, Sem.run_bind, px, py, pe, Result.andThen_ok, List.all_cons]
    cases hb : decide (xs.getD i (0, false) = ys.getD i (0, false))
    · simp
    · simp only [Bool.not_true, Bool.false_eq_true, if_false, Sem.run_pure, Result.andThen_ok, Bool.true_and]
      exact ih fun j hj => hl j (by simp [hj])
theorem run_eql_srcs (w : World) (xs ys : List Src) (hx : xs.length = 16) (hy : ys.length = 16) :
    (binOp .eql 43 (.agg (srcs xs).toArray) (.agg (srcs ys).toArray)).run Try.prog w = .ok (.bool (decide (xs = ys))) w := by
  rw [run_eql_struct, equal_srcs w 9997 xs ys hx hy]
  rfl
theorem infoSrcs : (Try.prog.info? 43).map (·.size) = some 32 := by kernel_rfl
theorem Held.range {w : World} {b : Nat} {s : St} (h : Held w b s) : w.rangeAt b 2 (srcs (full s.l)) := by
  intro j v hv
  obtain ⟨k, hk, e⟩ := srcs_one _ j v hv
  rw [full_length _ h.le] at hk
  rcases e with ⟨rfl, rfl⟩ | ⟨rfl, rfl⟩
  · exact h.mark k hk
  · exact h.idle k hk
section
variable {P : Program} {C : World → Prop} {K : Act → Prop} {o : Oper} {a : Act}
/-- in a region that draws its order and only reads: a whole array out of a block -/
theorem quiet_load_mid (ty : TypeId) (x : Operand) (ho : o.op = .load ty x) (b off : Nat) (hx : a.eval x = .pointer (some ⟨b, off, none⟩)) (cs : List Value) (d : TypeDesc) (hS : ∀ w, C w → w.rangeAt b off cs)
    (hu : P.underlying ty = some d) (hd : d.isRow = true) (hi : (P.info? ty).map (·.size) = some cs.length) (hk : K (a.put o.dst (.agg cs.toArray))) : o.quiet P a C K :=
  ⟨_, fun w hw => by
    unfold Oper.quietAt execOp
    simp only [ho, hx, Instr.loadAt, Instr.sureAddr, Sem.run_bind, Sem.run_pure, Result.andThen_ok, run_loadVar_mid w b off ty cs d (hS w hw) hu hd hi]
    exact ⟨rfl, rfl⟩, hk⟩
end
theorem eqGuardSrcs : Try.prog.eqGuardType Try.prog.depth 43 = false := by kernel_rfl
theorem quiet_eql_srcs {C : World → Prop} {K : Act → Prop} {o : Oper} {a : Act} (x y : Operand) (ho : o.op = .binOp .eql 43 x y 43) (xs ys : List Src) (hxs : xs.length = 16) (hys : ys.length = 16)
    (hx : a.eval x = .agg (srcs xs).toArray) (hy : a.eval y = .agg (srcs ys).toArray) (hk : K (a.put o.dst (.bool (decide (xs = ys))))) : o.quiet Try.prog a C K :=
  ⟨_, fun w _ => by
    unfold Oper.quietAt execOp
    simp only [ho, hx, hy, Sem.run_bind, run_eqGuard_agg w .eql _ x y _ _ eqGuardSrcs, Sem.run_pure, Result.andThen_ok, run_eql_srcs w xs ys hxs hys]
    exact ⟨rfl, rfl⟩, hk⟩
end Go.Proofs.Ytnkfldoejalpkaa.Marks
