/- The walks of package keys that go by panics: within, part, what catches; words for Encode and Range; the refusals of Encode. -/
import Derived.Test.YtjlpliapofndcaaProg
import Derived.Test.YtjlpliapofndcaaCodeT
import Derived.Test.YtjlpliapofndcaaAid
import Derived.WalkKit
import Derived.Handy
import Derived.KernelRfl
import Derived.WalkMore
import Derived.WalkLawsBesides
import Derived.Defers
import Derived.Recover
import Derived.Test.YtjlpliapofndcaaWLast
import Derived.Test.YtjlpliapofndcaaWTab
import Derived.Test.YtjlpliapofndcaaWMore
namespace Go.Proofs.Ytjlpliapofndcaa.Keys
open Go.RowKit Aid
/-- what gives up -/
abbrev wrongV (e : Int) : Value := .iface 45 (.agg #[.int .i64 e])
theorem within_ok (n limit : Int) (h0 : 0 ≤ n) (h1 : n < limit) (w : World) :
    Calls Try.prog 29 #[.int .i64 n, .int .i64 limit] w fun e w' => e = .returned (.tuple #[]) ∧ w' = w := by
  go_enter Try.func29, Try.ntmps29
  go_wp2
  go_end0
  exact ⟨rfl, rfl⟩
theorem within_bad (n limit : Int) (h : n < 0 ∨ limit ≤ n) (w : World) :
    Calls Try.prog 29 #[.int .i64 n, .int .i64 limit] w fun e w' => e = .panicked [{ v := wrongV 2, recovered := false }] ∧ w' = w := by
  go_enter Try.func29, Try.ntmps29
  go_wp2
  all_goals exact ⟨rfl, rfl, rfl⟩
theorem part_bad (s : ByteArray) (h : 64 < s.size) (w : World) :
    Calls Try.prog 30 #[.string s] w fun e w' => e = .panicked [{ v := wrongV 3, recovered := false }] ∧ w' = w := by
  go_enter Try.func30, Try.ntmps30
  go_wp2
  all_goals exact ⟨rfl, rfl, rfl⟩
theorem encT_small (l : List UInt8) : (PCode.encT l).length ≤ 2 * l.length := by
  induction l with
  | nil => simp [PCode.encT]
  | cons c l ih => unfold PCode.encT; split <;> simp <;> omega
theorem part_ok (s : ByteArray) (h : s.size ≤ 64) (w : World) :
    Calls Try.prog 30 #[.string s] w fun e w' => e = .returned (.string ⟨(PCode.putText s.data.toList).toArray⟩) ∧ Below w.heap.size w w' := by
  have hl : s.data.toList.length = s.size := by simp
  have he := encT_small s.data.toList
  have HP := Lib.hid (CodeW.putText_any s (by omega))
  clear he
  go_enter Try.func30, Try.ntmps30
  go_wp2_with fail
  refine (HP.out w).mono ?_
  rintro e w1 ⟨rfl, hb⟩
  go_wp2
  go_ret
  exact ⟨rfl, hb⟩
theorem catch_idle (p q : Addr) (w : World) :
    CallsD Try.prog 28 #[.pointer (some p), .pointer (some q)] .returning w fun e u' w' => e = .returned (.tuple #[]) ∧ u' = .returning ∧ w' = w := by
  refine callsD_of_wpS Try.func28 rfl fun c₀ cs hu => ?_
  apply wpS_seq
  apply wpS_region
  simp [wpOpsS, go_sem, recoverD, hu, Try.ntmps28, Exit.thenS]
  apply wpS_seq
  apply wpS_region
  simp [wpOpsS, go_sem, recoverD, hu, Exit.thenS]
  refine wpS_cond (t := false) (by simp [Act.eval, Array.replicate]) ?_
  simp only [Bool.false_eq_true, if_false]
  refine wpS_of_wp (wp_skip ?_)
  cases c₀
  simp_all [bodyPostS, results, Try.results28]
theorem catch_wrong (p q : Nat) (s0 : ByteArray) (e0 e : Int) (older : List PanicEntry) (w : World) (hp : Box w p (.string s0)) (hq : Box w q (.int .i64 e0)) (hne : p ≠ q) :
    CallsD Try.prog 28 #[.pointer (some ⟨p, 0, none⟩), .pointer (some ⟨q, 0, none⟩)] (.panicking ({ v := wrongV e, recovered := false } :: older)) w fun r u' w' =>
      r = .returned (.tuple #[]) ∧ u' = .panicking ({ v := wrongV e, recovered := true } :: older) ∧ Box w' p (.string ⟨#[]⟩) ∧ Box w' q (.int .i64 e) ∧ ∀ (w0 : World) (n : Nat), Below n w0 w → n ≤ p → n ≤ q → Below n w0 w' := by
  have hpc := hp.cell
  have hpf := hp.free
  have hqc := hq.cell
  have hqf := hq.free
  refine callsD_of_wpS Try.func28 rfl fun c₀ cs hu => ?_
  apply wpS_seq
  apply wpS_region
  simp [wpOpsS, go_sem, recoverD, hu, Try.ntmps28, Exit.thenS]
  apply wpS_seq
  apply wpS_region
  simp [wpOpsS, go_sem, recoverD, Exit.thenS]
  refine wpS_cond (t := true) (by simp [Act.eval, Array.replicate]) ?_
  simp only [if_true]
  refine wpS_of_wp ?_
  rw [show (#[Value.pointer (some ⟨p, 0, none⟩), Value.pointer (some ⟨q, 0, none⟩)] ++ ((((Array.replicate 7 undef).setIfInBounds 1 (wrongV e)).setIfInBounds 0 (wrongV e)).setIfInBounds 2 (wrongV e)).setIfInBounds 3 (Value.bool true)) = #[Value.pointer (some ⟨p, 0, none⟩), Value.pointer (some ⟨q, 0, none⟩), wrongV e, wrongV e, wrongV e, .bool true, undef, undef, undef] from rfl]
  unfold wrongV
  have hta : ∀ (W : World), (Instr.typeAssert (Value.iface 45 (Value.agg #[Value.int IntKind.i64 e])) 20 45 false).run Try.prog W = .ok (Value.agg #[Value.int IntKind.i64 e]) W := fun W => rfl
  have hfd : ∀ (W : World), (Instr.field 45 (Value.agg #[Value.int IntKind.i64 e]) 0).run Try.prog W = .ok (Value.int IntKind.i64 e) W := fun W => by kernel_rfl
  go_wp2
  go_region
  have b1 : Box (((w.setCell ⟨p, 0, none⟩ (Value.string ⟨#[]⟩)).setCell ⟨q, 0, none⟩ (Value.int IntKind.i64 e)).drew) p (.string ⟨#[]⟩) := ((hp.set_ _).far (p := ⟨q, 0, none⟩) (fun h => hne h.symm) _).drew
  have b2 : Box (((w.setCell ⟨p, 0, none⟩ (Value.string ⟨#[]⟩)).setCell ⟨q, 0, none⟩ (Value.int IntKind.i64 e)).drew) q (.int .i64 e) := ((hq.far (p := ⟨p, 0, none⟩) hne _).set_ _).drew
  have b3 : ∀ (w0 : World) (n : Nat), Below n w0 w → n ≤ p → n ≤ q → Below n w0 (((w.setCell ⟨p, 0, none⟩ (Value.string ⟨#[]⟩)).setCell ⟨q, 0, none⟩ (Value.int IntKind.i64 e)).drew) :=
    fun w0 n hb h1 h2 => ((hb.setCell (p := ⟨p, 0, none⟩) h1 _).setCell (p := ⟨q, 0, none⟩) h2 _).drew
  change bodyPostS _ _ _ _ _ _ _ _ _
  cases c₀
  simp [bodyPostS, results, Try.results28]
  exact ⟨b1, b2, b3⟩
end Go.Proofs.Ytjlpliapofndcaa.Keys

namespace Go.Proofs.Ytjlpliapofndcaa.Keys
open Go.RowKit Aid
theorem encode_state (st gr : Int) (ky sp sb : ByteArray) (h : st < 0 ∨ 64 ≤ st) (w : World) :
    Calls Try.prog 14 #[.agg #[.int .i64 st, .int .i64 gr, .string ky, .string sp, .string sb]] w fun e w' => e = .returned (.tuple #[.string ⟨#[]⟩, .int .i64 2]) ∧ Below w.heap.size w w' := by
  have hmf : ∀ (fn : Fn) (first cap : Array Value) (w : World), (Instr.makeFunc fn first cap).run Try.prog w = .ok (.func fn first cap) w := fun _ _ _ _ => rfl
  have HW := Lib.hid (fun w => within_bad st 64 h w)
  go_enter_defers Try.func14, Try.ntmps14
  go_wp2_with fail
  refine (HW.out _).mono ?_
  rintro e w1 ⟨rfl, rfl⟩
  try go_wp2
  refine leaves_cons (f := 28) (args := #[.pointer (some ⟨w.heap.size + 1, 0, none⟩), .pointer (some ⟨w.heap.size + 1 + 1, 0, none⟩)]) (by simp) (by simp [go_sem]) ?_
  have c1 := Box.new (w.alloc (.cells #[Value.int .i64 st, Value.int .i64 gr, Value.string ky, Value.string sp, Value.string sb] 23)) (Value.string ⟨#[]⟩) 9
  have c2 := Box.new ((w.alloc (.cells #[Value.int .i64 st, Value.int .i64 gr, Value.string ky, Value.string sp, Value.string sb] 23)).alloc (.cells #[Value.string ⟨#[]⟩] 9)) (Value.int .i64 0) 24
  rw [World.size_alloc] at c1
  rw [World.size_alloc, World.size_alloc] at c2
  refine (catch_wrong (w.heap.size + 1) (w.heap.size + 1 + 1) ⟨#[]⟩ 0 2 [] _ (c1.alloc _) c2 (by omega)).mono ?_
  rintro e u' w' ⟨rfl, rfl, d1, d2, d3⟩
  have k1 := d1.cell
  have k2 := d2.cell
  simp [Leaves, settle, results, Try.results14, go_sem, k1, k2]
  exact d3 w w.heap.size ((((Below.refl _ w).alloc (Nat.le_refl _) _).alloc (by simp) _).alloc (by simp; omega) _) (by omega) (by omega)
theorem encode_group (st gr : Int) (ky sp sb : ByteArray) (h0 : 0 ≤ st) (h1 : st < 64) (h : gr < 0 ∨ 64 ≤ gr) (w : World) :
    Calls Try.prog 14 #[.agg #[.int .i64 st, .int .i64 gr, .string ky, .string sp, .string sb]] w fun e w' => e = .returned (.tuple #[.string ⟨#[]⟩, .int .i64 2]) ∧ Below w.heap.size w w' := by
  have hmf : ∀ (fn : Fn) (first cap : Array Value) (w : World), (Instr.makeFunc fn first cap).run Try.prog w = .ok (.func fn first cap) w := fun _ _ _ _ => rfl
  have HS := Lib.hid (fun w => within_ok st 64 h0 h1 w)
  have HW := Lib.hid (fun w => within_bad gr 64 h w)
  go_enter_defers Try.func14, Try.ntmps14
  go_wp2_with fail
  refine (HS.out _).mono ?_
  rintro e w1 ⟨rfl, rfl⟩
  go_wp2_with fail
  refine (HW.out _).mono ?_
  rintro e w1 ⟨rfl, rfl⟩
  try go_wp2
  refine leaves_cons (f := 28) (args := #[.pointer (some ⟨w.heap.size + 1, 0, none⟩), .pointer (some ⟨w.heap.size + 1 + 1, 0, none⟩)]) (by simp) (by simp [go_sem]) ?_
  have c1 := Box.new (w.alloc (.cells #[Value.int .i64 st, Value.int .i64 gr, Value.string ky, Value.string sp, Value.string sb] 23)) (Value.string ⟨#[]⟩) 9
  have c2 := Box.new ((w.alloc (.cells #[Value.int .i64 st, Value.int .i64 gr, Value.string ky, Value.string sp, Value.string sb] 23)).alloc (.cells #[Value.string ⟨#[]⟩] 9)) (Value.int .i64 0) 24
  rw [World.size_alloc] at c1
  rw [World.size_alloc, World.size_alloc] at c2
  refine (catch_wrong (w.heap.size + 1) (w.heap.size + 1 + 1) ⟨#[]⟩ 0 2 [] _ (c1.alloc _) c2 (by omega)).mono ?_
  rintro e u' w' ⟨rfl, rfl, d1, d2, d3⟩
  have k1 := d1.cell
  have k2 := d2.cell
  simp [Leaves, settle, results, Try.results14, go_sem, k1, k2]
  exact d3 w w.heap.size ((((Below.refl _ w).alloc (Nat.le_refl _) _).alloc (by simp) _).alloc (by simp; omega) _) (by omega) (by omega)
end Go.Proofs.Ytjlpliapofndcaa.Keys

namespace Go.Proofs.Ytjlpliapofndcaa.Keys
open Go.RowKit Aid Go.Proofs.YtjlpliapofndcaaW.PrintWords Go.Proofs.YtjlpliapofndcaaW.PrintLast Go.Proofs.YtjlpliapofndcaaW.PrintMore
theorem within_any (n limit : Int) (w : World) :
    Calls Try.prog 29 #[.int .i64 n, .int .i64 limit] w fun e w' => ((0 ≤ n ∧ n < limit) ∧ e = .returned (.tuple #[]) ∧ w' = w) ∨ ((n < 0 ∨ limit ≤ n) ∧ e = .panicked [{ v := wrongV 2, recovered := false }] ∧ w' = w) := by
  by_cases h0 : 0 ≤ n ∧ n < limit
  · exact (within_ok n limit h0.1 h0.2 w).mono fun e w' h => Or.inl ⟨h0, h⟩
  · have h1 : n < 0 ∨ limit ≤ n := by omega
    exact (within_bad n limit h1 w).mono fun e w' h => Or.inr ⟨h1, h⟩
/-- an ordered text of a part -/
def pt (s : ByteArray) : ByteArray := ⟨(PCode.putText s.data.toList).toArray⟩
theorem part_any (s : ByteArray) (w : World) :
    Calls Try.prog 30 #[.string s] w fun e w' => (s.size ≤ 64 ∧ e = .returned (.string (pt s)) ∧ Below w.heap.size w w') ∨ (64 < s.size ∧ e = .panicked [{ v := wrongV 3, recovered := false }] ∧ w' = w) := by
  by_cases h0 : s.size ≤ 64
  · exact (part_ok s h0 w).mono fun e w' h => Or.inl ⟨h0, h⟩
  · exact (part_bad s (by omega) w).mono fun e w' h => Or.inr ⟨by omega, h⟩
section
variable {P : Program} {ops : Array Oper} {Q : Exit → Act → World → Prop}
/-- a call that returns or panics -/
theorem may_ {oi : Oper} {N : Option Tmp} {a : Act} {w : World} {K : Act → World → Prop} {f : FuncId} {fn : Func} {ar : Array Operand} {ts : Array TypeId} (hf : P.funcs[f]? = some fn) (hname : (fn.name == "runtime.NumGoroutine") = false) (hb : fn.body.isSome = true) (args : Array Value)
    (hw : Region.wanted oi (yielded ops a.tmps) = true) (hN : oi.dst = N) (hop : oi.op = .call { callee := .value (.func f), args := ar, argTypes := ts }) (hargs : ar.map a.eval = args)
    (h : Calls P f args w fun e w' => (∃ v, e = .returned v ∧ K (a.put N v) w') ∨ ∃ c, e = .panicked c ∧ Q (.panic c) a w') : if Region.wanted oi (yielded ops a.tmps) = true then Oper.wp P oi a w K Q else K (a.put N undef) w := by
  subst hN
  have he := enters_ hf hname hb args w
  have hrun : (execOp a.eval oi).run P w = .ok (.enter f args) w := by
    unfold execOp
    simp [hop, resolve, Deferred.ofValue, invoke, Act.eval, hargs, he]
  rw [if_pos hw]
  unfold Oper.wp
  rw [hrun, Oper.upon_enter]
  refine h.mono fun e w'' hh => ?_
  rcases hh with ⟨v, rfl, hk⟩ | ⟨c, rfl, hk⟩ <;> exact hk
end
/-- what stands in memory while Encode goes: the key's block, and the two results' -/
structure Held (w W : World) (st gr : Int) (ky sp sb r1 : ByteArray) (r2 : Int) : Prop where
  key : W.heap[w.heap.size]? = some (.cells #[.int .i64 st, .int .i64 gr, .string ky, .string sp, .string sb] 23 (0, 0))
  one : W.heap[w.heap.size + 1]? = some (.cells #[.string r1] 9 (0, 0))
  two : W.heap[w.heap.size + 1 + 1]? = some (.cells #[.int .i64 r2] 24 (0, 0))
  below : Below w.heap.size w W
section
variable {w W W1 : World} {st gr : Int} {ky sp sb r1 : ByteArray} {r2 : Int}
theorem Held.step (h : Held w W st gr ky sp sb r1 r2) (hb : Below W.heap.size W W1) : Held w W1 st gr ky sp sb r1 r2 :=
  ⟨blk_below h.key hb, blk_below h.one hb, blk_below h.two hb, below_step h.below hb⟩
theorem Held.drew (h : Held w W st gr ky sp sb r1 r2) : Held w W.drew st gr ky sp sb r1 r2 := ⟨h.key, h.one, h.two, h.below.drew⟩
theorem Held.c0 (h : Held w W st gr ky sp sb r1 r2) : W.cell? ⟨w.heap.size, 0, none⟩ = some (.int .i64 st) := (blk_cell h.key 0).trans rfl
theorem Held.c1 (h : Held w W st gr ky sp sb r1 r2) : W.cell? ⟨w.heap.size, 1, none⟩ = some (.int .i64 gr) := (blk_cell h.key 1).trans rfl
theorem Held.c2 (h : Held w W st gr ky sp sb r1 r2) : W.cell? ⟨w.heap.size, 2, none⟩ = some (.string ky) := (blk_cell h.key 2).trans rfl
theorem Held.c3 (h : Held w W st gr ky sp sb r1 r2) : W.cell? ⟨w.heap.size, 3, none⟩ = some (.string sp) := (blk_cell h.key 3).trans rfl
theorem Held.c4 (h : Held w W st gr ky sp sb r1 r2) : W.cell? ⟨w.heap.size, 4, none⟩ = some (.string sb) := (blk_cell h.key 4).trans rfl
theorem Held.b1 (h : Held w W st gr ky sp sb r1 r2) : Box W (w.heap.size + 1) (.string r1) := ⟨(blk_cell h.one 0).trans rfl, blk_frozen h.one 0⟩
theorem Held.b2 (h : Held w W st gr ky sp sb r1 r2) : Box W (w.heap.size + 1 + 1) (.int .i64 r2) := ⟨(blk_cell h.two 0).trans rfl, blk_frozen h.two 0⟩
theorem Held.store (h : Held w W st gr ky sp sb r1 r2) (s : ByteArray) : Held w (W.setCell ⟨w.heap.size + 1, 0, none⟩ (.string s)) st gr ky sp sb s r2 :=
  ⟨blk_far h.key (by simp) _, blk_put h.one 0 _ rfl, blk_far h.two (by simp) _, below_set h.below (by omega)⟩
theorem Held.store2 (h : Held w W st gr ky sp sb r1 r2) (e : Int) : Held w (W.setCell ⟨w.heap.size + 1 + 1, 0, none⟩ (.int .i64 e)) st gr ky sp sb r1 e :=
  ⟨blk_far h.key (by simp; omega) _, blk_far h.one (by simp) _, blk_put h.two 0 _ rfl, below_set h.below (by omega)⟩
theorem Held.new (w : World) (st gr : Int) (ky sp sb r1 : ByteArray) (r2 : Int) : Held w (((w.alloc (.cells #[.int .i64 st, .int .i64 gr, .string ky, .string sp, .string sb] 23)).alloc (.cells #[.string r1] 9)).alloc (.cells #[.int .i64 r2] 24)) st gr ky sp sb r1 r2 := by
  have k1 := blk_new w (.cells #[.int .i64 st, .int .i64 gr, .string ky, .string sp, .string sb] 23)
  have b1 : Below w.heap.size w (w.alloc (.cells #[.int .i64 st, .int .i64 gr, .string ky, .string sp, .string sb] 23)) := (Below.refl _ w).alloc (Nat.le_refl _) _
  have e1 : (w.alloc (.cells #[.int .i64 st, .int .i64 gr, .string ky, .string sp, .string sb] 23)).heap.size = w.heap.size + 1 := World.size_alloc _ _
  generalize w.alloc (.cells #[.int .i64 st, .int .i64 gr, .string ky, .string sp, .string sb] 23) = wa at k1 b1 e1 ⊢
  have k2 := blk_new wa (.cells #[.string r1] 9)
  have b2 : Below wa.heap.size wa (wa.alloc (.cells #[.string r1] 9)) := (Below.refl _ wa).alloc (Nat.le_refl _) _
  have e2 : (wa.alloc (.cells #[.string r1] 9)).heap.size = wa.heap.size + 1 := World.size_alloc _ _
  generalize wa.alloc (.cells #[.string r1] 9) = wb at k2 b2 e2 ⊢
  have k3 := blk_new wb (.cells #[.int .i64 r2] 24)
  have b3 : Below wb.heap.size wb (wb.alloc (.cells #[.int .i64 r2] 24)) := (Below.refl _ wb).alloc (Nat.le_refl _) _
  generalize wb.alloc (.cells #[.int .i64 r2] 24) = wc at k3 b3 ⊢
  rw [e1] at k2
  rw [e2, e1] at k3
  exact ⟨blk_below (blk_below k1 b2) b3, blk_below k2 b3, k3, below_step (below_step b1 b2) b3⟩
end
theorem pt_size {s : ByteArray} (h : s.size ≤ 64) : (pt s).size ≤ 130 := by
  have h1 := encT_small s.data.toList
  have h2 : s.data.toList.length = s.size := by simp
  have h3 : (pt s).size = (PCode.putText s.data.toList).length := by simp [pt, ByteArray.size]
  have h4 : (PCode.putText s.data.toList).length = (PCode.encT s.data.toList).length + 2 := by rw [PCode.putText_enc]; simp
  omega
end Go.Proofs.Ytjlpliapofndcaa.Keys

namespace Go.Proofs.Ytjlpliapofndcaa.Keys
open Go.RowKit Aid Go.Proofs.YtjlpliapofndcaaW.PrintWords Go.Proofs.YtjlpliapofndcaaW.PrintLast Go.Proofs.YtjlpliapofndcaaW.PrintMore
theorem catch3_idle (p q r : Addr) (w : World) :
    CallsD Try.prog 34 #[.pointer (some p), .pointer (some q), .pointer (some r)] .returning w fun e u' w' => e = .returned (.tuple #[]) ∧ u' = .returning ∧ w' = w := by
  refine callsD_of_wpS Try.func34 rfl fun c₀ cs hu => ?_
  apply wpS_seq
  apply wpS_region
  simp [wpOpsS, go_sem, recoverD, hu, Try.ntmps34, Exit.thenS]
  apply wpS_seq
  apply wpS_region
  simp [wpOpsS, go_sem, recoverD, hu, Exit.thenS]
  refine wpS_cond (t := false) (by simp [Act.eval, Array.replicate]) ?_
  simp only [Bool.false_eq_true, if_false]
  refine wpS_of_wp (wp_skip ?_)
  cases c₀
  simp_all [bodyPostS, results, Try.results34]
theorem catch3_wrong (p q r : Nat) (s0 s1 : ByteArray) (e0 e : Int) (older : List PanicEntry) (w : World) (hp : Box w p (.string s0)) (hq : Box w q (.string s1)) (hr : Box w r (.int .i64 e0)) (hne : p ≠ q) (hn2 : p ≠ r) (hn3 : q ≠ r) :
    CallsD Try.prog 34 #[.pointer (some ⟨p, 0, none⟩), .pointer (some ⟨q, 0, none⟩), .pointer (some ⟨r, 0, none⟩)] (.panicking ({ v := wrongV e, recovered := false } :: older)) w fun x u' w' =>
      x = .returned (.tuple #[]) ∧ u' = .panicking ({ v := wrongV e, recovered := true } :: older) ∧ Box w' p (.string ⟨#[]⟩) ∧ Box w' q (.string ⟨#[]⟩) ∧ Box w' r (.int .i64 e) ∧ ∀ (w0 : World) (n : Nat), Below n w0 w → n ≤ p → n ≤ q → n ≤ r → Below n w0 w' := by
  have hpc := hp.cell
  have hpf := hp.free
  have hqc := hq.cell
  have hqf := hq.free
  have hrc := hr.cell
  have hrf := hr.free
  refine callsD_of_wpS Try.func34 rfl fun c₀ cs hu => ?_
  apply wpS_seq
  apply wpS_region
  simp [wpOpsS, go_sem, recoverD, hu, Try.ntmps34, Exit.thenS]
  apply wpS_seq
  apply wpS_region
  simp [wpOpsS, go_sem, recoverD, Exit.thenS]
  refine wpS_cond (t := true) (by simp [Act.eval, Array.replicate]) ?_
  simp only [if_true]
  refine wpS_of_wp ?_
  rw [show (#[Value.pointer (some ⟨p, 0, none⟩), Value.pointer (some ⟨q, 0, none⟩), Value.pointer (some ⟨r, 0, none⟩)] ++ ((((Array.replicate 7 undef).setIfInBounds 1 (wrongV e)).setIfInBounds 0 (wrongV e)).setIfInBounds 2 (wrongV e)).setIfInBounds 3 (Value.bool true)) = #[Value.pointer (some ⟨p, 0, none⟩), Value.pointer (some ⟨q, 0, none⟩), Value.pointer (some ⟨r, 0, none⟩), wrongV e, wrongV e, wrongV e, .bool true, undef, undef, undef] from rfl]
  unfold wrongV
  have hta : ∀ (W : World), (Instr.typeAssert (Value.iface 45 (Value.agg #[Value.int IntKind.i64 e])) 20 45 false).run Try.prog W = .ok (Value.agg #[Value.int IntKind.i64 e]) W := fun W => rfl
  have hfd : ∀ (W : World), (Instr.field 45 (Value.agg #[Value.int IntKind.i64 e]) 0).run Try.prog W = .ok (Value.int IntKind.i64 e) W := fun W => by kernel_rfl
  go_wp2
  go_region
  have b1 : Box ((((w.setCell ⟨p, 0, none⟩ (Value.string ⟨#[]⟩)).setCell ⟨q, 0, none⟩ (Value.string ⟨#[]⟩)).setCell ⟨r, 0, none⟩ (Value.int IntKind.i64 e)).drew) p (.string ⟨#[]⟩) := (((hp.set_ _).far (p := ⟨q, 0, none⟩) (fun h => hne h.symm) _).far (p := ⟨r, 0, none⟩) (fun h => hn2 h.symm) _).drew
  have b2 : Box ((((w.setCell ⟨p, 0, none⟩ (Value.string ⟨#[]⟩)).setCell ⟨q, 0, none⟩ (Value.string ⟨#[]⟩)).setCell ⟨r, 0, none⟩ (Value.int IntKind.i64 e)).drew) q (.string ⟨#[]⟩) := (((hq.far (p := ⟨p, 0, none⟩) hne _).set_ _).far (p := ⟨r, 0, none⟩) (fun h => hn3 h.symm) _).drew
  have b3 : Box ((((w.setCell ⟨p, 0, none⟩ (Value.string ⟨#[]⟩)).setCell ⟨q, 0, none⟩ (Value.string ⟨#[]⟩)).setCell ⟨r, 0, none⟩ (Value.int IntKind.i64 e)).drew) r (.int .i64 e) := (((hr.far (p := ⟨p, 0, none⟩) hn2 _).far (p := ⟨q, 0, none⟩) hn3 _).set_ _).drew
  have b4 : ∀ (w0 : World) (n : Nat), Below n w0 w → n ≤ p → n ≤ q → n ≤ r → Below n w0 ((((w.setCell ⟨p, 0, none⟩ (Value.string ⟨#[]⟩)).setCell ⟨q, 0, none⟩ (Value.string ⟨#[]⟩)).setCell ⟨r, 0, none⟩ (Value.int IntKind.i64 e)).drew) :=
    fun w0 n hb h1 h2 h3 => (((hb.setCell (p := ⟨p, 0, none⟩) h1 _).setCell (p := ⟨q, 0, none⟩) h2 _).setCell (p := ⟨r, 0, none⟩) h3 _).drew
  change bodyPostS _ _ _ _ _ _ _ _ _
  cases c₀
  simp [bodyPostS, results, Try.results34]
  exact ⟨b1, b2, b3, b4⟩
/-- what stands in memory while Range goes: the key's block, and the three results' -/
structure Kept (w W : World) (st gr : Int) (ky sp sb r1 r2 : ByteArray) (r3 : Int) : Prop where
  key : W.heap[w.heap.size]? = some (.cells #[.int .i64 st, .int .i64 gr, .string ky, .string sp, .string sb] 23 (0, 0))
  one : W.heap[w.heap.size + 1]? = some (.cells #[.string r1] 9 (0, 0))
  two : W.heap[w.heap.size + 1 + 1]? = some (.cells #[.string r2] 9 (0, 0))
  three : W.heap[w.heap.size + 1 + 1 + 1]? = some (.cells #[.int .i64 r3] 24 (0, 0))
  below : Below w.heap.size w W
section
variable {w W W1 : World} {st gr : Int} {ky sp sb r1 r2 : ByteArray} {r3 : Int}
theorem Kept.step (h : Kept w W st gr ky sp sb r1 r2 r3) (hb : Below W.heap.size W W1) : Kept w W1 st gr ky sp sb r1 r2 r3 :=
  ⟨blk_below h.key hb, blk_below h.one hb, blk_below h.two hb, blk_below h.three hb, below_step h.below hb⟩
theorem Kept.drew (h : Kept w W st gr ky sp sb r1 r2 r3) : Kept w W.drew st gr ky sp sb r1 r2 r3 := ⟨h.key, h.one, h.two, h.three, h.below.drew⟩
theorem Kept.c0 (h : Kept w W st gr ky sp sb r1 r2 r3) : W.cell? ⟨w.heap.size, 0, none⟩ = some (.int .i64 st) := (blk_cell h.key 0).trans rfl
theorem Kept.c1 (h : Kept w W st gr ky sp sb r1 r2 r3) : W.cell? ⟨w.heap.size, 1, none⟩ = some (.int .i64 gr) := (blk_cell h.key 1).trans rfl
theorem Kept.c2 (h : Kept w W st gr ky sp sb r1 r2 r3) : W.cell? ⟨w.heap.size, 2, none⟩ = some (.string ky) := (blk_cell h.key 2).trans rfl
theorem Kept.c3 (h : Kept w W st gr ky sp sb r1 r2 r3) : W.cell? ⟨w.heap.size, 3, none⟩ = some (.string sp) := (blk_cell h.key 3).trans rfl
theorem Kept.b1 (h : Kept w W st gr ky sp sb r1 r2 r3) : Box W (w.heap.size + 1) (.string r1) := ⟨(blk_cell h.one 0).trans rfl, blk_frozen h.one 0⟩
theorem Kept.b2 (h : Kept w W st gr ky sp sb r1 r2 r3) : Box W (w.heap.size + 1 + 1) (.string r2) := ⟨(blk_cell h.two 0).trans rfl, blk_frozen h.two 0⟩
theorem Kept.b3 (h : Kept w W st gr ky sp sb r1 r2 r3) : Box W (w.heap.size + 1 + 1 + 1) (.int .i64 r3) := ⟨(blk_cell h.three 0).trans rfl, blk_frozen h.three 0⟩
theorem Kept.store (h : Kept w W st gr ky sp sb r1 r2 r3) (s : ByteArray) : Kept w (W.setCell ⟨w.heap.size + 1, 0, none⟩ (.string s)) st gr ky sp sb s r2 r3 :=
  ⟨blk_far h.key (by simp) _, blk_put h.one 0 _ rfl, blk_far h.two (by simp) _, blk_far h.three (by simp <;> omega) _, below_set h.below (by omega)⟩
theorem Kept.store2 (h : Kept w W st gr ky sp sb r1 r2 r3) (s : ByteArray) : Kept w (W.setCell ⟨w.heap.size + 1 + 1, 0, none⟩ (.string s)) st gr ky sp sb r1 s r3 :=
  ⟨blk_far h.key (by simp <;> omega) _, blk_far h.one (by simp) _, blk_put h.two 0 _ rfl, blk_far h.three (by simp) _, below_set h.below (by omega)⟩
theorem Kept.store3 (h : Kept w W st gr ky sp sb r1 r2 r3) (e : Int) : Kept w (W.setCell ⟨w.heap.size + 1 + 1 + 1, 0, none⟩ (.int .i64 e)) st gr ky sp sb r1 r2 e :=
  ⟨blk_far h.key (by simp <;> omega) _, blk_far h.one (by simp <;> omega) _, blk_far h.two (by simp) _, blk_put h.three 0 _ rfl, below_set h.below (by omega)⟩
theorem Kept.far (h : Kept w W st gr ky sp sb r1 r2 r3) {p : Addr} (hp : w.heap.size + 4 ≤ p.block) (u : Value) : Kept w (W.setCell p u) st gr ky sp sb r1 r2 r3 :=
  ⟨blk_far h.key (by omega) _, blk_far h.one (by omega) _, blk_far h.two (by omega) _, blk_far h.three (by omega) _, h.below.setCell (by omega) _⟩
theorem Kept.new (w : World) (st gr : Int) (ky sp sb r1 r2 : ByteArray) (r3 : Int) : Kept w ((((w.alloc (.cells #[.int .i64 st, .int .i64 gr, .string ky, .string sp, .string sb] 23)).alloc (.cells #[.string r1] 9)).alloc (.cells #[.string r2] 9)).alloc (.cells #[.int .i64 r3] 24)) st gr ky sp sb r1 r2 r3 := by
  have k1 := blk_new w (.cells #[.int .i64 st, .int .i64 gr, .string ky, .string sp, .string sb] 23)
  have b1 : Below w.heap.size w (w.alloc (.cells #[.int .i64 st, .int .i64 gr, .string ky, .string sp, .string sb] 23)) := (Below.refl _ w).alloc (Nat.le_refl _) _
  have e1 : (w.alloc (.cells #[.int .i64 st, .int .i64 gr, .string ky, .string sp, .string sb] 23)).heap.size = w.heap.size + 1 := World.size_alloc _ _
  generalize w.alloc (.cells #[.int .i64 st, .int .i64 gr, .string ky, .string sp, .string sb] 23) = wa at k1 b1 e1 ⊢
  have k2 := blk_new wa (.cells #[.string r1] 9)
  have b2 : Below wa.heap.size wa (wa.alloc (.cells #[.string r1] 9)) := (Below.refl _ wa).alloc (Nat.le_refl _) _
  have e2 : (wa.alloc (.cells #[.string r1] 9)).heap.size = wa.heap.size + 1 := World.size_alloc _ _
  generalize wa.alloc (.cells #[.string r1] 9) = wb at k2 b2 e2 ⊢
  have k3 := blk_new wb (.cells #[.string r2] 9)
  have b3 : Below wb.heap.size wb (wb.alloc (.cells #[.string r2] 9)) := (Below.refl _ wb).alloc (Nat.le_refl _) _
  have e3 : (wb.alloc (.cells #[.string r2] 9)).heap.size = wb.heap.size + 1 := World.size_alloc _ _
  generalize wb.alloc (.cells #[.string r2] 9) = wc at k3 b3 e3 ⊢
  have k4 := blk_new wc (.cells #[.int .i64 r3] 24)
  have b4 : Below wc.heap.size wc (wc.alloc (.cells #[.int .i64 r3] 24)) := (Below.refl _ wc).alloc (Nat.le_refl _) _
  generalize wc.alloc (.cells #[.int .i64 r3] 24) = wd at k4 b4 ⊢
  rw [e1] at k2
  rw [e2, e1] at k3
  rw [e3, e2, e1] at k4
  exact ⟨blk_below (blk_below (blk_below k1 b2) b3) b4, blk_below (blk_below k2 b3) b4, blk_below k3 b4, k4, below_step (below_step (below_step b1 b2) b3) b4⟩
end
def door3 (n : Nat) : List Deferred := [{ target := Target.fn (Fn.func 34) #[.pointer (some ⟨n + 1, 0, none⟩), .pointer (some ⟨n + 1 + 1, 0, none⟩), .pointer (some ⟨n + 1 + 1 + 1, 0, none⟩)], args := #[] }]
theorem door3_ret {R : Ending → World → Prop} {a : Act} {w W : World} {st gr : Int} {ky sp sb s t : ByteArray} {e : Int} (hh : Kept w W st gr ky sp sb s t e) (g3 : a.tmps[4]? = some (.pointer (some ⟨w.heap.size + 1, 0, none⟩))) (g4 : a.tmps[5]? = some (.pointer (some ⟨w.heap.size + 1 + 1, 0, none⟩)))
    (g5 : a.tmps[6]? = some (.pointer (some ⟨w.heap.size + 1 + 1 + 1, 0, none⟩))) (g6 : a.defers = door3 w.heap.size) (hR : R (.returned (.tuple #[.string s, .string t, .int .i64 e])) W) : bodyPostD Try.prog Try.f21 R .ret a W := by
  obtain ⟨tm, df⟩ := a
  simp only at g3 g4 g5 g6
  subst g6
  have k1 := hh.b1.cell
  have k2 := hh.b2.cell
  have k3 := hh.b3.cell
  refine leaves_cons (f := 34) (args := #[.pointer (some ⟨w.heap.size + 1, 0, none⟩), .pointer (some ⟨w.heap.size + 1 + 1, 0, none⟩), .pointer (some ⟨w.heap.size + 1 + 1 + 1, 0, none⟩)]) (by simp) (by simp [go_sem]) ?_
  refine (catch3_idle ⟨w.heap.size + 1, 0, none⟩ ⟨w.heap.size + 1 + 1, 0, none⟩ ⟨w.heap.size + 1 + 1 + 1, 0, none⟩ _).mono ?_
  rintro e1 u' w' ⟨rfl, rfl, rfl⟩
  simp [Leaves, settle, results, Try.results21, go_sem, k1, k2, k3, g3, g4, g5]
  exact hR
theorem door3_panic {R : Ending → World → Prop} {a : Act} {w W : World} {st gr : Int} {ky sp sb s t : ByteArray} {e0 : Int} (e : Int) (hh : Kept w W st gr ky sp sb s t e0) (g3 : a.tmps[4]? = some (.pointer (some ⟨w.heap.size + 1, 0, none⟩))) (g4 : a.tmps[5]? = some (.pointer (some ⟨w.heap.size + 1 + 1, 0, none⟩)))
    (g5 : a.tmps[6]? = some (.pointer (some ⟨w.heap.size + 1 + 1 + 1, 0, none⟩))) (g6 : a.defers = door3 w.heap.size) (hR : ∀ W', Below w.heap.size w W' → R (.returned (.tuple #[.string ⟨#[]⟩, .string ⟨#[]⟩, .int .i64 e])) W') : bodyPostD Try.prog Try.f21 R (.panic [{ v := wrongV e, recovered := false }]) a W := by
  obtain ⟨tm, df⟩ := a
  simp only at g3 g4 g5 g6
  subst g6
  refine leaves_cons (f := 34) (args := #[.pointer (some ⟨w.heap.size + 1, 0, none⟩), .pointer (some ⟨w.heap.size + 1 + 1, 0, none⟩), .pointer (some ⟨w.heap.size + 1 + 1 + 1, 0, none⟩)]) (by simp) (by simp [go_sem]) ?_
  refine (catch3_wrong (w.heap.size + 1) (w.heap.size + 1 + 1) (w.heap.size + 1 + 1 + 1) s t e0 e [] _ hh.b1 hh.b2 hh.b3 (by omega) (by omega) (by omega)).mono ?_
  rintro e1 u' w' ⟨rfl, rfl, d1, d2, d3, d4⟩
  have k1 := d1.cell
  have k2 := d2.cell
  have k3 := d3.cell
  simp [Leaves, settle, results, Try.results21, go_sem, k1, k2, k3, g3, g4, g5]
  exact hR _ (d4 w w.heap.size hh.below (by omega) (by omega) (by omega))
end Go.Proofs.Ytjlpliapofndcaa.Keys
