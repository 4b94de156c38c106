/- The walk of keys.Encode: state and group within their bounds. Its fourth region draws its order: two calls that may panic, and a slice that is built; this text is printed by a program of this session (wip/keysgen.py). -/
import Derived.Test.YtjlpliapofndcaaKeys
import Derived.Test.YtjlpliapofndcaaWRepsOne
namespace Go.Proofs.Ytjlpliapofndcaa.Keys
open Go.RowKit Aid Go.Proofs.YtjlpliapofndcaaW.PrintWords Go.Proofs.YtjlpliapofndcaaW.PrintLast Go.Proofs.YtjlpliapofndcaaW.PrintMore
set_option linter.unusedVariables false
set_option linter.unusedSimpArgs false
/-- the text of a key but for its last part -/
def headOf (st gr : Int) (ky sp : ByteArray) : ByteArray := (strOfNums [st % 256, gr % 256] ++ pt ky) ++ pt sp
def door (n : Nat) : List Deferred := [{ target := Target.fn (Fn.func 28) #[.pointer (some ⟨n + 1, 0, none⟩), .pointer (some ⟨n + 1 + 1, 0, none⟩)], args := #[] }]
/-- behind the fourth region: the store is done, or a part was too long -/
def Past (w : World) (st gr : Int) (ky sp sb : ByteArray) (e : Exit) (a : Act) (W : World) : Prop :=
  match e with
  | .normal => ky.size ≤ 64 ∧ sp.size ≤ 64 ∧ Held w W st gr ky sp sb (headOf st gr ky sp) 0 ∧ ∃ x0 x1 x2 x3 x4 x5 x6 x7 x8 x9 x10 x11 x12 x13 x14 x15 x16 x17 x18 x19 x20 x21 x22 x23 : Value, a = { tmps := #[x0, .pointer (some ⟨w.heap.size, 0, none⟩), .pointer (some ⟨w.heap.size + 1, 0, none⟩), .pointer (some ⟨w.heap.size + 1 + 1, 0, none⟩), x1, x2, x3, x4, x5, x6, x7, x8, x9, x10, x11, x12, x13, x14, x15, x16, x17, x18, x19, x20, x21, x22, x23, undef, undef, undef, undef, undef, undef, undef], defers := door w.heap.size }
  | .panic c => (64 < ky.size ∨ 64 < sp.size) ∧ c = [{ v := wrongV 3, recovered := false }] ∧ a.tmps[2]? = some (.pointer (some ⟨w.heap.size + 1, 0, none⟩)) ∧ a.tmps[3]? = some (.pointer (some ⟨w.heap.size + 1 + 1, 0, none⟩)) ∧ a.tmps.size = 34 ∧ a.defers = door w.heap.size ∧ Held w W st gr ky sp sb ⟨#[]⟩ 0
  | _ => False
theorem Past.put {w W : World} {st gr : Int} {ky sp sb : ByteArray} {c : List PanicEntry} {a : Act} {v : Value} (n : Nat) (h2 : n ≠ 2) (h3 : n ≠ 3) (h : Past w st gr ky sp sb (.panic c) (a.put (some n) v) W) : Past w st gr ky sp sb (.panic c) a W := by
  obtain ⟨g1, g2, g3, g4, g5, g6, g7⟩ := h
  refine ⟨g1, g2, ?_, ?_, ?_, g6, g7⟩
  · simpa [Act.put, Array.getElem?_setIfInBounds, h2] using g3
  · simpa [Act.put, Array.getElem?_setIfInBounds, h3] using g4
  · simpa [Act.put] using g5
theorem door_ret {R : Ending → World → Prop} {a : Act} {w W : World} {st gr : Int} {ky sp sb s : ByteArray} {e : Int} (hh : Held w W st gr ky sp sb s e) (g3 : a.tmps[2]? = some (.pointer (some ⟨w.heap.size + 1, 0, none⟩))) (g4 : a.tmps[3]? = some (.pointer (some ⟨w.heap.size + 1 + 1, 0, none⟩)))
    (g6 : a.defers = door w.heap.size) (hR : R (.returned (.tuple #[.string s, .int .i64 e])) W) : bodyPostD Try.prog Try.f14 R .ret a W := by
  obtain ⟨tm, df⟩ := a
  simp only at g3 g4 g6
  subst g6
  have k1 := hh.b1.cell
  have k2 := hh.b2.cell
  refine leaves_cons (f := 28) (args := #[.pointer (some ⟨w.heap.size + 1, 0, none⟩), .pointer (some ⟨w.heap.size + 1 + 1, 0, none⟩)]) (by simp) (by simp [go_sem]) ?_
  refine (catch_idle ⟨w.heap.size + 1, 0, none⟩ ⟨w.heap.size + 1 + 1, 0, none⟩ _).mono ?_
  rintro e1 u' w' ⟨rfl, rfl, rfl⟩
  simp [Leaves, settle, results, Try.results14, go_sem, k1, k2, g3, g4]
  exact hR
theorem door_panic {R : Ending → World → Prop} {a : Act} {w W : World} {st gr : Int} {ky sp sb s : ByteArray} {e0 : Int} (e : Int) (hh : Held w W st gr ky sp sb s e0) (g3 : a.tmps[2]? = some (.pointer (some ⟨w.heap.size + 1, 0, none⟩))) (g4 : a.tmps[3]? = some (.pointer (some ⟨w.heap.size + 1 + 1, 0, none⟩)))
    (g6 : a.defers = door w.heap.size) (hR : ∀ W', Below w.heap.size w W' → R (.returned (.tuple #[.string ⟨#[]⟩, .int .i64 e])) W') : bodyPostD Try.prog Try.f14 R (.panic [{ v := wrongV e, recovered := false }]) a W := by
  obtain ⟨tm, df⟩ := a
  simp only at g3 g4 g6
  subst g6
  refine leaves_cons (f := 28) (args := #[.pointer (some ⟨w.heap.size + 1, 0, none⟩), .pointer (some ⟨w.heap.size + 1 + 1, 0, none⟩)]) (by simp) (by simp [go_sem]) ?_
  refine (catch_wrong (w.heap.size + 1) (w.heap.size + 1 + 1) s e0 e [] _ hh.b1 hh.b2 (by omega)).mono ?_
  rintro e1 u' w' ⟨rfl, rfl, d1, d2, d3⟩
  have k1 := d1.cell
  have k2 := d2.cell
  simp [Leaves, settle, results, Try.results14, go_sem, k1, k2, g3, g4]
  exact hR _ (d3 w w.heap.size hh.below (by omega) (by omega))
theorem head_size {st gr : Int} {ky sp : ByteArray} (h1 : ky.size ≤ 64) (h2 : sp.size ≤ 64) : (headOf st gr ky sp).size ≤ 262 := by
  have g1 := pt_size h1
  have g2 := pt_size h2
  have g3 : (headOf st gr ky sp).size = (strOfNums [st % 256, gr % 256]).size + (pt ky).size + (pt sp).size := by unfold headOf; rw [ByteArray.size_append, ByteArray.size_append]
  have g4 : (strOfNums [st % 256, gr % 256]).size = 2 := by rw [strOfNums_size]; rfl
  omega
def T4 : Bool × List (List Nat × List Nat) := (true, [([], []), ([0], [0]), ([1], [1]), ([], []), ([3], [3]), ([4], [4]), ([2, 5], [2, 5]), ([6], [6]), ([], []), ([8], [8]), ([9], [9]), ([7, 10], [7, 10]), ([], []), ([12], [12]), ([13, 10], [13]), ([11, 14], [11, 14]), ([15, 14, 0, 1, 2, 3, 4, 5, 6, 7, 8, 9, 10, 11, 12, 13, 14, 15], [15])])
def B4 : List Nat := [0, 1, 3, 0, 8, 24, 63, 127, 0, 256, 768, 2047, 0, 4096, 14080, 32767, 65535]
theorem tab4 : rtab .any (opsOf Try.f14 4) = T4 := by kernel_rfl
theorem bits4 : waitsOk T4.2 B4 = true := by kernel_rfl
set_option maxHeartbeats 8000000 in
set_option maxRecDepth 100000 in
theorem encode_rest (st gr : Int) (ky sp sb : ByteArray) (h0 : 0 ≤ st) (h1 : st < 64) (h2 : 0 ≤ gr) (h3 : gr < 64) (w : World) :
    Calls Try.prog 14 #[.agg #[.int .i64 st, .int .i64 gr, .string ky, .string sp, .string sb]] w fun e w' => ((64 < ky.size ∨ 64 < sp.size ∨ 64 < sb.size) ∧ e = .returned (.tuple #[.string ⟨#[]⟩, .int .i64 3]) ∨
      (ky.size ≤ 64 ∧ sp.size ≤ 64 ∧ sb.size ≤ 64) ∧ e = .returned (.tuple #[.string (headOf st gr ky sp ++ sb), .int .i64 0])) ∧ Below w.heap.size w w' := by
  have hmf : ∀ (fn : Fn) (first cap : Array Value) (w : World), (Instr.makeFunc fn first cap).run Try.prog w = .ok (.func fn first cap) w := fun _ _ _ _ => rfl
  have HS := Lib.hid (fun w => within_ok st 64 h0 h1 w)
  have HG := Lib.hid (fun w => within_ok gr 64 h2 h3 w)
  go_enter_defers Try.func14, Try.ntmps14
  go_wp2_with fail
  refine (HS.out _).mono ?_
  rintro e w1 ⟨rfl, rfl⟩
  go_wp2_with fail
  refine (HG.out _).mono ?_
  rintro e w1 ⟨rfl, rfl⟩
  go_wp2_with fail
  have hh := Held.new w st gr ky sp sb ⟨#[]⟩ 0
  generalize ((w.alloc (.cells #[.int .i64 st, .int .i64 gr, .string ky, .string sp, .string sb] 23)).alloc (.cells #[.string ⟨#[]⟩] 9)).alloc (.cells #[.int .i64 0] 24) = W at hh ⊢
  refine wp_mono (Q := Past w st gr ky sp sb) ?reg ?rest
  case rest =>
    clear hh HS HG
    rename_i a0
    rintro e a W1 h
    match e, h with
    | .normal, h =>
      obtain ⟨hky, hsp, hh1, x0, x1, x2, x3, x4, x5, x6, x7, x8, x9, x10, x11, x12, x13, x14, x15, x16, x17, x18, x19, x20, x21, x22, x23, rfl⟩ := h
      refine a0 _ _ ?_
      clear a0
      have hc4 := hh1.c4
      unfold door
      go_wp2_with fail
      refine (part_any sb _).mono ?_
      rintro e w2 (⟨hsb, rfl, hb⟩ | ⟨hsb, rfl, rfl⟩)
      · have hh2 := hh1.step hb
        have hsz := head_size (st := st) (gr := gr) hky hsp
        have hsz2 : (9223372036854775807 < (headOf st gr ky sp).size + sb.size) = False := eq_false (by omega)
        clear hc4
        have hc4 := hh2.c4
        have hb1 := hh2.b1.cell
        have hf1 := hh2.b1.free
        have hb2 := hh2.b2.cell
        have hf2 := hh2.b2.free
        go_wp2_with fail
        exact door_ret ((hh2.store _).store2 _) rfl rfl rfl ⟨Or.inr ⟨⟨hky, hsp, hsb⟩, rfl⟩, ((hh2.store _).store2 _).below⟩
      · exact door_panic 3 hh1 rfl rfl rfl (fun W' hW => ⟨Or.inl ⟨Or.inr (Or.inr hsb), rfl⟩, hW⟩)
    | .panic c, h =>
      obtain ⟨hbad, rfl, g3, g4, g5, g6, hh1⟩ := h
      clear a0
      exact door_panic 3 hh1 g3 g4 g6 (fun W' hW => ⟨Or.inl ⟨hbad.elim Or.inl (fun h => Or.inr (Or.inl h)), rfl⟩, hW⟩)
  case reg =>
    rename_i a0
    clear a0 HS HG hmf h0 h1 h2 h3
    have HK := Lib.hid (part_any ky)
    have HP := Lib.hid (part_any sp)
    have hz0 : (strOfNums [st % 256, gr % 256]).size = 2 := by rw [strOfNums_size]; rfl
    refine start_ (n := 17) (S := fun W => Held w W st gr ky sp sb ⟨#[]⟩ 0) (ds := [16]) #[false, false, false, false, false, false, false, false, false, false, false, false, false, false, false, false, false] (by kernel_rfl) rfl rfl hh.drew (fun hHeld => ?_)
    refine with_tabW tab4 bits4 (fun HT_ HW_ => ?_)
    generalize W.drew = W0 at hHeld ⊢
    clear hh
    clear W
    refine pure_ (i := 0) (N := some 11) (v := ?_) (a' := ?_) #[true, false, false, false, false, false, false, false, false, false, false, false, false, false, false, false, false] rfl rfl (any_of HT_.out (by kernel_rfl)) (fun _ _ _ h => Past.put 11 (by decide) (by decide) h) (Or.inl ⟨by rfl, ?_⟩) ?_ ?_
    rotate_left
    · intro w'
      go_simp
      with_reducible rfl
    rotate_left
    · simp only [Act.put, List.setIfInBounds_toArray, List.set_cons_zero, List.set_cons_succ, i64_w, i32_w]
      rfl
    refine pure_ (i := 3) (N := some 14) (v := ?_) (a' := ?_) #[true, false, false, true, false, false, false, false, false, false, false, false, false, false, false, false, false] rfl rfl (any_of HT_.out (by kernel_rfl)) (fun _ _ _ h => Past.put 14 (by decide) (by decide) h) (Or.inl ⟨by rfl, ?_⟩) ?_ ?_
    rotate_left
    · intro w'
      go_simp
      with_reducible rfl
    rotate_left
    · simp only [Act.put, List.setIfInBounds_toArray, List.set_cons_zero, List.set_cons_succ, i64_w, i32_w]
      rfl
    refine pure_ (i := 8) (N := some 19) (v := ?_) (a' := ?_) #[true, false, false, true, false, false, false, false, true, false, false, false, false, false, false, false, false] rfl rfl (any_of HT_.out (by kernel_rfl)) (fun _ _ _ h => Past.put 19 (by decide) (by decide) h) (Or.inl ⟨by rfl, ?_⟩) ?_ ?_
    rotate_left
    · intro w'
      go_simp
      with_reducible rfl
    rotate_left
    · simp only [Act.put, List.setIfInBounds_toArray, List.set_cons_zero, List.set_cons_succ, i64_w, i32_w]
      rfl
    refine pure_ (i := 12) (N := some 23) (v := ?_) (a' := ?_) #[true, false, false, true, false, false, false, false, true, false, false, false, true, false, false, false, false] rfl rfl (any_of HT_.out (by kernel_rfl)) (fun _ _ _ h => Past.put 23 (by decide) (by decide) h) (Or.inl ⟨by rfl, ?_⟩) ?_ ?_
    rotate_left
    · intro w'
      go_simp
      with_reducible rfl
    rotate_left
    · simp only [Act.put, List.setIfInBounds_toArray, List.set_cons_zero, List.set_cons_succ, i64_w, i32_w]
      rfl
    refine take_ (i := 1) (N := some 12) (v := ?_) (a' := ?_) #[true, true, false, true, false, false, false, false, true, false, false, false, true, false, false, false, false] rfl rfl (take_ofW HT_.out HW_.out (by kernel_rfl)) (fun _ _ _ h => Past.put 12 (by decide) (by decide) h) (Or.inl ⟨by rfl, ?_⟩) hHeld ?_ ?_
    rotate_left
    · intro w' hs
      have s0 := hs.c0
      go_simp
      with_reducible rfl
    rotate_left
    · simp only [Act.put, List.setIfInBounds_toArray, List.set_cons_zero, List.set_cons_succ, i64_w, i32_w]
      rfl
    refine pure_ (i := 2) (N := some 13) (v := ?_) (a' := ?_) #[true, true, true, true, false, false, false, false, true, false, false, false, true, false, false, false, false] rfl rfl (any_of HT_.out (by kernel_rfl)) (fun _ _ _ h => Past.put 13 (by decide) (by decide) h) (Or.inl ⟨by rfl, ?_⟩) ?_ ?_
    rotate_left
    · intro w'
      go_simp
      with_reducible rfl
    rotate_left
    · simp only [Act.put, List.setIfInBounds_toArray, List.set_cons_zero, List.set_cons_succ, i64_w, i32_w]
      rfl
    refine take_ (i := 4) (N := some 15) (v := ?_) (a' := ?_) #[true, true, true, true, true, false, false, false, true, false, false, false, true, false, false, false, false] rfl rfl (take_ofW HT_.out HW_.out (by kernel_rfl)) (fun _ _ _ h => Past.put 15 (by decide) (by decide) h) (Or.inl ⟨by rfl, ?_⟩) hHeld ?_ ?_
    rotate_left
    · intro w' hs
      have s0 := hs.c1
      go_simp
      with_reducible rfl
    rotate_left
    · simp only [Act.put, List.setIfInBounds_toArray, List.set_cons_zero, List.set_cons_succ, i64_w, i32_w]
      rfl
    refine pure_ (i := 5) (N := some 16) (v := ?_) (a' := ?_) #[true, true, true, true, true, true, false, false, true, false, false, false, true, false, false, false, false] rfl rfl (any_of HT_.out (by kernel_rfl)) (fun _ _ _ h => Past.put 16 (by decide) (by decide) h) (Or.inl ⟨by rfl, ?_⟩) ?_ ?_
    rotate_left
    · intro w'
      go_simp
      with_reducible rfl
    rotate_left
    · simp only [Act.put, List.setIfInBounds_toArray, List.set_cons_zero, List.set_cons_succ, i64_w, i32_w]
      rfl
    refine take_ (i := 9) (N := some 20) (v := ?_) (a' := ?_) #[true, true, true, true, true, true, false, false, true, true, false, false, true, false, false, false, false] rfl rfl (take_ofW HT_.out HW_.out (by kernel_rfl)) (fun _ _ _ h => Past.put 20 (by decide) (by decide) h) (Or.inl ⟨by rfl, ?_⟩) hHeld ?_ ?_
    rotate_left
    · intro w' hs
      have s0 := hs.c2
      go_simp
      with_reducible rfl
    rotate_left
    · simp only [Act.put, List.setIfInBounds_toArray, List.set_cons_zero, List.set_cons_succ, i64_w, i32_w]
      rfl
    refine take_ (i := 13) (N := some 24) (v := ?_) (a' := ?_) #[true, true, true, true, true, true, false, false, true, true, false, false, true, true, false, false, false] rfl rfl (take_ofW HT_.out HW_.out (by kernel_rfl)) (fun _ _ _ h => Past.put 24 (by decide) (by decide) h) (Or.inl ⟨by rfl, ?_⟩) hHeld ?_ ?_
    rotate_left
    · intro w' hs
      have s0 := hs.c3
      go_simp
      with_reducible rfl
    rotate_left
    · simp only [Act.put, List.setIfInBounds_toArray, List.set_cons_zero, List.set_cons_succ, i64_w, i32_w]
      rfl
    refine join_ (σ := Value) 2 #[true, true, true, true, true, true, true, true, true, true, true, true, true, true, true, false, false] (fun s_ => [(17, s_), (18, .string (strOfNums [st % 256, gr % 256])), (21, .string (pt ky)), (25, .string (pt sp)), (22, .string (strOfNums [st % 256, gr % 256] ++ pt ky))]) (fun s_ w' => (Held w w' st gr ky sp sb ⟨#[]⟩ 0) ∧ (ky.size ≤ 64) ∧ (sp.size ≤ 64)) ?_ ?_
    · skip
      clear hHeld
      rintro s_ w9 ⟨hHeld, hky, hsp⟩
      refine norm_ (a' := ?_) ?_ ?_
      rotate_left
      · simp only [putAll, Act.put, List.setIfInBounds_toArray, List.set_cons_zero, List.set_cons_succ]
        rfl
      have hz1 : (pt ky).size ≤ 130 := pt_size hky
      have hz2 : (pt sp).size ≤ 130 := pt_size hsp
      have hc8 : (9223372036854775807 < 2 + (pt ky).size + (pt sp).size) = False := eq_false (by omega)
      refine pure_ (i := 15) (N := some 26) (v := ?_) (a' := ?_) #[true, true, true, true, true, true, true, true, true, true, true, true, true, true, true, true, false] rfl rfl (any_of HT_.out (by kernel_rfl)) (fun _ _ _ h => Past.put 26 (by decide) (by decide) h) (Or.inl ⟨by rfl, ?_⟩) ?_ ?_
      rotate_left
      · intro w'
        go_simp
        with_reducible rfl
      rotate_left
      · simp only [Act.put, List.setIfInBounds_toArray, List.set_cons_zero, List.set_cons_succ, i64_w, i32_w]
        rfl
      refine last_ (i := 16) (N := none) #[true, true, true, true, true, true, true, true, true, true, true, true, true, true, true, true, true] rfl rfl (one_of HT_.out (by kernel_rfl)) (by decide) (fun K hK => ?_)
      have b1 := hHeld.b1.cell
      have b2 := hHeld.b1.free
      refine skip_ (w1 := ?_) (by rfl) rfl ?_ ?_
      rotate_left
      · go_simp
        rfl
      refine hK.out _ _ ?_
      refine done_ (done_of HT_.out (by kernel_rfl)) ?_
      exact ⟨hky, hsp, hHeld.store _, _, _, _, _, _, _, _, _, _, _, _, _, _, _, _, _, _, _, _, _, _, _, _, _, rfl⟩
    intro hJ22
    refine join_ (σ := Value) 4 #[true, true, true, true, true, true, true, false, true, true, true, false, true, true, true, false, false] (fun s_ => [(17, s_), (21, .string (pt ky)), (25, .string (pt sp))]) (fun s_ w' => (Held w w' st gr ky sp sb ⟨#[]⟩ 0) ∧ (Kd.R (Kd.int .u8) 5 w' w.heap.size (fun _ => True) s_ [st % 256, gr % 256]) ∧ (ky.size ≤ 64) ∧ (sp.size ≤ 64)) ?_ ?_
    · skip
      clear hHeld
      rintro s_ w9 ⟨hHeld, HR, hky, hsp⟩
      refine norm_ (a' := ?_) ?_ ?_
      rotate_left
      · simp only [putAll, Act.put, List.setIfInBounds_toArray, List.set_cons_zero, List.set_cons_succ]
        rfl
      refine one_ (i := 7) (N := some 18) #[true, true, true, true, true, true, true, true, true, true, true, false, true, true, true, false, false] rfl rfl (one_of HT_.out (by kernel_rfl)) (by decide) (fun K hK => ?_)
      have hcv := own_string (P := Try.prog) Try.underlying47 Try.underlying5 Try.underlying9 (Kd.own_of_R HR)
      refine value_ (w1 := ?_) (v := ?_) (by rfl) rfl ?_ ?_
      rotate_left 2
      · go_simp
        constructor
        · rfl
        · rfl
      clear hcv
      refine hK.out _ _ hHeld (fun _ => ?_)
      clear hK K
      refine norm_ (a' := ?_) ?_ ?_
      rotate_left
      · show Act.put _ (some 18) _ = _
        simp only [Act.put, List.setIfInBounds_toArray, List.set_cons_zero, List.set_cons_succ, i64_w, i32_w]
        rfl
      have hz1 : (pt ky).size ≤ 130 := pt_size hky
      have hc6 : (9223372036854775807 < 2 + (pt ky).size) = False := eq_false (by omega)
      refine pure_ (i := 11) (N := some 22) (v := ?_) (a' := ?_) #[true, true, true, true, true, true, true, true, true, true, true, true, true, true, true, false, false] rfl rfl (any_of HT_.out (by kernel_rfl)) (fun _ _ _ h => Past.put 22 (by decide) (by decide) h) (Or.inl ⟨by rfl, ?_⟩) ?_ ?_
      rotate_left
      · intro w'
        go_simp
        with_reducible rfl
      rotate_left
      · simp only [Act.put, List.setIfInBounds_toArray, List.set_cons_zero, List.set_cons_succ, i64_w, i32_w]
        rfl
      clear hz1 hc6
      exact norm_ (by first | (simp only [putAll, Act.put, List.setIfInBounds_toArray, List.set_cons_zero, List.set_cons_succ]; done) | (simp only [putAll, Act.put, List.setIfInBounds_toArray, List.set_cons_zero, List.set_cons_succ]; rfl)) (hJ22 s_ _ ⟨hHeld, hky, hsp⟩)
    intro hJ12
    refine join_ (σ := Value) 3 #[true, true, true, true, true, true, true, true, true, true, true, true, true, true, false, false, false] (fun s_ => [(17, s_), (18, .string (strOfNums [st % 256, gr % 256])), (21, .string (pt ky)), (22, .string (strOfNums [st % 256, gr % 256] ++ pt ky))]) (fun s_ w' => (Held w w' st gr ky sp sb ⟨#[]⟩ 0) ∧ (ky.size ≤ 64)) ?_ ?_
    · skip
      clear hHeld
      rintro s_ w9 ⟨hHeld, hky⟩
      refine norm_ (a' := ?_) ?_ ?_
      rotate_left
      · simp only [putAll, Act.put, List.setIfInBounds_toArray, List.set_cons_zero, List.set_cons_succ]
        rfl
      refine one_ (i := 14) (N := some 25) #[true, true, true, true, true, true, true, true, true, true, true, true, true, true, true, false, false] rfl rfl (one_of HT_.out (by kernel_rfl)) (by decide) (fun K hK => ?_)
      refine may_ Try.func30 (by kernel_rfl) rfl #[.string sp] (by rfl) rfl rfl (by (try simp only [List.map_toArray, List.map_cons, List.map_nil]); first | done | rfl) ?_
      refine (HP.out _).mono ?_
      rintro e w' (⟨hsp, rfl, hb⟩ | ⟨hsp, rfl, rfl⟩)
      · refine Or.inl ⟨_, rfl, ?_⟩
        replace hHeld := hHeld.step hb
        clear hb
        refine hK.out _ _ hHeld (fun _ => ?_)
        clear hK K
        refine norm_ (a' := ?_) ?_ ?_
        rotate_left
        · show Act.put _ (some 25) _ = _
          simp only [Act.put, List.setIfInBounds_toArray, List.set_cons_zero, List.set_cons_succ, i64_w, i32_w]
          rfl
        exact norm_ (by first | (simp only [putAll, Act.put, List.setIfInBounds_toArray, List.set_cons_zero, List.set_cons_succ]; done) | (simp only [putAll, Act.put, List.setIfInBounds_toArray, List.set_cons_zero, List.set_cons_succ]; rfl)) (hJ22 s_ _ ⟨hHeld, hky, hsp⟩)
      · exact Or.inr ⟨_, rfl, Or.inr hsp, rfl, rfl, rfl, rfl, rfl, hHeld⟩
    intro hJ21
    refine join_ (σ := Unit) 5 #[true, true, true, true, true, true, false, false, true, true, true, false, true, true, true, false, false] (fun s_ => [(21, .string (pt ky)), (25, .string (pt sp))]) (fun s_ w' => (Held w w' st gr ky sp sb ⟨#[]⟩ 0) ∧ (ky.size ≤ 64) ∧ (sp.size ≤ 64)) ?_ ?_
    · skip
      clear hHeld
      rintro _ w9 ⟨hHeld, hky, hsp⟩
      refine norm_ (a' := ?_) ?_ ?_
      rotate_left
      · simp only [putAll, Act.put, List.setIfInBounds_toArray, List.set_cons_zero, List.set_cons_succ]
        rfl
      refine one_ (i := 6) (N := some 17) #[true, true, true, true, true, true, true, false, true, true, true, false, true, true, true, false, false] rfl rfl (one_of HT_.out (by kernel_rfl)) (by decide) (fun K hK => ?_)
      refine Kd.R_lit_step (Kd.int .u8) _ 5 ?hg (N := 17) ?hd (xs := [st % 256, gr % 256]) (inner := [.int .u8 (st % 256), .int .u8 (gr % 256)]) (ok := fun _ => True) (okp := fun _ => True) ?hr ?hp (fun _ hk => hk) trivial (Below.refl _ _) (Nat.le_refl _) (by simp) ?_; (case hd => rfl); (case hg => rfl); (case hr => first | (go_simp; done) | (go_simp; rfl)); (case hp => exact (Reps.one (show Kd.M (Kd.int .u8) _ _ _ (st % 256) [.int .u8 (st % 256)] from rfl) (Reps.one (show Kd.M (Kd.int .u8) _ _ _ (gr % 256) [.int .u8 (gr % 256)] from rfl) (Reps.none _ _))))
      intro v1 w1 HR hb hg_ hnew_
      replace HR := Kd.R_lower HR hHeld.below.size
      replace hHeld := hHeld.step hb
      clear hg_ hnew_ hb
      refine hK.out _ _ hHeld (fun _ => ?_)
      clear hK K
      refine norm_ (a' := ?_) ?_ ?_
      rotate_left
      · show Act.put _ (some 17) _ = _
        simp only [Act.put, List.setIfInBounds_toArray, List.set_cons_zero, List.set_cons_succ, i64_w, i32_w]
        rfl
      exact norm_ (by first | (simp only [putAll, Act.put, List.setIfInBounds_toArray, List.set_cons_zero, List.set_cons_succ]; done) | (simp only [putAll, Act.put, List.setIfInBounds_toArray, List.set_cons_zero, List.set_cons_succ]; rfl)) (hJ12 v1 _ ⟨hHeld, HR, hky, hsp⟩)
    intro hJ02
    refine join_ (σ := Value) 5 #[true, true, true, true, true, true, true, false, true, true, true, false, true, true, false, false, false] (fun s_ => [(17, s_), (21, .string (pt ky))]) (fun s_ w' => (Held w w' st gr ky sp sb ⟨#[]⟩ 0) ∧ (Kd.R (Kd.int .u8) 5 w' w.heap.size (fun _ => True) s_ [st % 256, gr % 256]) ∧ (ky.size ≤ 64)) ?_ ?_
    · skip
      clear hHeld
      rintro s_ w9 ⟨hHeld, HR, hky⟩
      refine norm_ (a' := ?_) ?_ ?_
      rotate_left
      · simp only [putAll, Act.put, List.setIfInBounds_toArray, List.set_cons_zero, List.set_cons_succ]
        rfl
      refine two_ (i := 7) (j := 14) (Ni := some 18) (Nj := some 25) #[true, true, true, true, true, true, true, true, true, true, true, false, true, true, false, false, false] #[true, true, true, true, true, true, true, false, true, true, true, false, true, true, true, false, false] rfl rfl rfl rfl (two_of HT_.out (by kernel_rfl)) (by decide) (by decide) (fun K hK => ?_) (fun K hK => ?_)
      · skip
        have hcv := own_string (P := Try.prog) Try.underlying47 Try.underlying5 Try.underlying9 (Kd.own_of_R HR)
        refine value_ (w1 := ?_) (v := ?_) (by rfl) rfl ?_ ?_
        rotate_left 2
        · go_simp
          constructor
          · rfl
          · rfl
        clear hcv
        refine hK.out _ _ hHeld (fun _ => ?_)
        clear hK K
        refine norm_ (a' := ?_) ?_ ?_
        rotate_left
        · show Act.put _ (some 18) _ = _
          simp only [Act.put, List.setIfInBounds_toArray, List.set_cons_zero, List.set_cons_succ, i64_w, i32_w]
          rfl
        have hz1 : (pt ky).size ≤ 130 := pt_size hky
        have hc6 : (9223372036854775807 < 2 + (pt ky).size) = False := eq_false (by omega)
        refine pure_ (i := 11) (N := some 22) (v := ?_) (a' := ?_) #[true, true, true, true, true, true, true, true, true, true, true, true, true, true, false, false, false] rfl rfl (any_of HT_.out (by kernel_rfl)) (fun _ _ _ h => Past.put 22 (by decide) (by decide) h) (Or.inl ⟨by rfl, ?_⟩) ?_ ?_
        rotate_left
        · intro w'
          go_simp
          with_reducible rfl
        rotate_left
        · simp only [Act.put, List.setIfInBounds_toArray, List.set_cons_zero, List.set_cons_succ, i64_w, i32_w]
          rfl
        clear hz1 hc6
        exact norm_ (by first | (simp only [putAll, Act.put, List.setIfInBounds_toArray, List.set_cons_zero, List.set_cons_succ]; done) | (simp only [putAll, Act.put, List.setIfInBounds_toArray, List.set_cons_zero, List.set_cons_succ]; rfl)) (hJ21 s_ _ ⟨hHeld, hky⟩)
      · skip
        refine may_ Try.func30 (by kernel_rfl) rfl #[.string sp] (by rfl) rfl rfl (by (try simp only [List.map_toArray, List.map_cons, List.map_nil]); first | done | rfl) ?_
        refine (HP.out _).mono ?_
        rintro e w' (⟨hsp, rfl, hb⟩ | ⟨hsp, rfl, rfl⟩)
        · refine Or.inl ⟨_, rfl, ?_⟩
          replace HR := Kd.R_below HR hb
          replace hHeld := hHeld.step hb
          clear hb
          refine hK.out _ _ hHeld (fun _ => ?_)
          clear hK K
          refine norm_ (a' := ?_) ?_ ?_
          rotate_left
          · show Act.put _ (some 25) _ = _
            simp only [Act.put, List.setIfInBounds_toArray, List.set_cons_zero, List.set_cons_succ, i64_w, i32_w]
            rfl
          exact norm_ (by first | (simp only [putAll, Act.put, List.setIfInBounds_toArray, List.set_cons_zero, List.set_cons_succ]; done) | (simp only [putAll, Act.put, List.setIfInBounds_toArray, List.set_cons_zero, List.set_cons_succ]; rfl)) (hJ12 s_ _ ⟨hHeld, HR, hky, hsp⟩)
        · exact Or.inr ⟨_, rfl, Or.inr hsp, rfl, rfl, rfl, rfl, rfl, hHeld⟩
    intro hJ11
    refine join_ (σ := Value) 5 #[true, true, true, true, true, true, true, true, true, true, false, false, true, true, false, false, false] (fun s_ => [(17, s_), (18, .string (strOfNums [st % 256, gr % 256]))]) (fun s_ w' => (Held w w' st gr ky sp sb ⟨#[]⟩ 0)) ?_ ?_
    · skip
      clear hHeld
      rintro s_ w9 hHeld
      refine norm_ (a' := ?_) ?_ ?_
      rotate_left
      · simp only [putAll, Act.put, List.setIfInBounds_toArray, List.set_cons_zero, List.set_cons_succ]
        rfl
      refine one_ (i := 10) (N := some 21) #[true, true, true, true, true, true, true, true, true, true, true, false, true, true, false, false, false] rfl rfl (one_of HT_.out (by kernel_rfl)) (by decide) (fun K hK => ?_)
      refine may_ Try.func30 (by kernel_rfl) rfl #[.string ky] (by rfl) rfl rfl (by (try simp only [List.map_toArray, List.map_cons, List.map_nil]); first | done | rfl) ?_
      refine (HK.out _).mono ?_
      rintro e w' (⟨hky, rfl, hb⟩ | ⟨hky, rfl, rfl⟩)
      · refine Or.inl ⟨_, rfl, ?_⟩
        replace hHeld := hHeld.step hb
        clear hb
        refine hK.out _ _ hHeld (fun _ => ?_)
        clear hK K
        refine norm_ (a' := ?_) ?_ ?_
        rotate_left
        · show Act.put _ (some 21) _ = _
          simp only [Act.put, List.setIfInBounds_toArray, List.set_cons_zero, List.set_cons_succ, i64_w, i32_w]
          rfl
        have hz1 : (pt ky).size ≤ 130 := pt_size hky
        have hc6 : (9223372036854775807 < 2 + (pt ky).size) = False := eq_false (by omega)
        refine pure_ (i := 11) (N := some 22) (v := ?_) (a' := ?_) #[true, true, true, true, true, true, true, true, true, true, true, true, true, true, false, false, false] rfl rfl (any_of HT_.out (by kernel_rfl)) (fun _ _ _ h => Past.put 22 (by decide) (by decide) h) (Or.inl ⟨by rfl, ?_⟩) ?_ ?_
        rotate_left
        · intro w'
          go_simp
          with_reducible rfl
        rotate_left
        · simp only [Act.put, List.setIfInBounds_toArray, List.set_cons_zero, List.set_cons_succ, i64_w, i32_w]
          rfl
        clear hz1 hc6
        exact norm_ (by first | (simp only [putAll, Act.put, List.setIfInBounds_toArray, List.set_cons_zero, List.set_cons_succ]; done) | (simp only [putAll, Act.put, List.setIfInBounds_toArray, List.set_cons_zero, List.set_cons_succ]; rfl)) (hJ21 s_ _ ⟨hHeld, hky⟩)
      · exact Or.inr ⟨_, rfl, Or.inl hky, rfl, rfl, rfl, rfl, rfl, hHeld⟩
    intro hJ20
    refine join_ (σ := Unit) 6 #[true, true, true, true, true, true, false, false, true, true, true, false, true, true, false, false, false] (fun s_ => [(21, .string (pt ky))]) (fun s_ w' => (Held w w' st gr ky sp sb ⟨#[]⟩ 0) ∧ (ky.size ≤ 64)) ?_ ?_
    · skip
      clear hHeld
      rintro _ w9 ⟨hHeld, hky⟩
      refine norm_ (a' := ?_) ?_ ?_
      rotate_left
      · simp only [putAll, Act.put, List.setIfInBounds_toArray, List.set_cons_zero, List.set_cons_succ]
        rfl
      refine two_ (i := 6) (j := 14) (Ni := some 17) (Nj := some 25) #[true, true, true, true, true, true, true, false, true, true, true, false, true, true, false, false, false] #[true, true, true, true, true, true, false, false, true, true, true, false, true, true, true, false, false] rfl rfl rfl rfl (two_of HT_.out (by kernel_rfl)) (by decide) (by decide) (fun K hK => ?_) (fun K hK => ?_)
      · skip
        refine Kd.R_lit_step (Kd.int .u8) _ 5 ?hg (N := 17) ?hd (xs := [st % 256, gr % 256]) (inner := [.int .u8 (st % 256), .int .u8 (gr % 256)]) (ok := fun _ => True) (okp := fun _ => True) ?hr ?hp (fun _ hk => hk) trivial (Below.refl _ _) (Nat.le_refl _) (by simp) ?_; (case hd => rfl); (case hg => rfl); (case hr => first | (go_simp; done) | (go_simp; rfl)); (case hp => exact (Reps.one (show Kd.M (Kd.int .u8) _ _ _ (st % 256) [.int .u8 (st % 256)] from rfl) (Reps.one (show Kd.M (Kd.int .u8) _ _ _ (gr % 256) [.int .u8 (gr % 256)] from rfl) (Reps.none _ _))))
        intro v1 w1 HR hb hg_ hnew_
        replace HR := Kd.R_lower HR hHeld.below.size
        replace hHeld := hHeld.step hb
        clear hg_ hnew_ hb
        refine hK.out _ _ hHeld (fun _ => ?_)
        clear hK K
        refine norm_ (a' := ?_) ?_ ?_
        rotate_left
        · show Act.put _ (some 17) _ = _
          simp only [Act.put, List.setIfInBounds_toArray, List.set_cons_zero, List.set_cons_succ, i64_w, i32_w]
          rfl
        exact norm_ (by first | (simp only [putAll, Act.put, List.setIfInBounds_toArray, List.set_cons_zero, List.set_cons_succ]; done) | (simp only [putAll, Act.put, List.setIfInBounds_toArray, List.set_cons_zero, List.set_cons_succ]; rfl)) (hJ11 v1 _ ⟨hHeld, HR, hky⟩)
      · skip
        refine may_ Try.func30 (by kernel_rfl) rfl #[.string sp] (by rfl) rfl rfl (by (try simp only [List.map_toArray, List.map_cons, List.map_nil]); first | done | rfl) ?_
        refine (HP.out _).mono ?_
        rintro e w' (⟨hsp, rfl, hb⟩ | ⟨hsp, rfl, rfl⟩)
        · refine Or.inl ⟨_, rfl, ?_⟩
          replace hHeld := hHeld.step hb
          clear hb
          refine hK.out _ _ hHeld (fun _ => ?_)
          clear hK K
          refine norm_ (a' := ?_) ?_ ?_
          rotate_left
          · show Act.put _ (some 25) _ = _
            simp only [Act.put, List.setIfInBounds_toArray, List.set_cons_zero, List.set_cons_succ, i64_w, i32_w]
            rfl
          exact norm_ (by first | (simp only [putAll, Act.put, List.setIfInBounds_toArray, List.set_cons_zero, List.set_cons_succ]; done) | (simp only [putAll, Act.put, List.setIfInBounds_toArray, List.set_cons_zero, List.set_cons_succ]; rfl)) (hJ02 () _ ⟨hHeld, hky, hsp⟩)
        · exact Or.inr ⟨_, rfl, Or.inr hsp, rfl, rfl, rfl, rfl, rfl, hHeld⟩
    intro hJ01
    refine join_ (σ := Value) 6 #[true, true, true, true, true, true, true, false, true, true, false, false, true, true, false, false, false] (fun s_ => [(17, s_)]) (fun s_ w' => (Held w w' st gr ky sp sb ⟨#[]⟩ 0) ∧ (Kd.R (Kd.int .u8) 5 w' w.heap.size (fun _ => True) s_ [st % 256, gr % 256])) ?_ ?_
    · skip
      clear hHeld
      rintro s_ w9 ⟨hHeld, HR⟩
      refine norm_ (a' := ?_) ?_ ?_
      rotate_left
      · simp only [putAll, Act.put, List.setIfInBounds_toArray, List.set_cons_zero, List.set_cons_succ]
        rfl
      refine two_ (i := 7) (j := 10) (Ni := some 18) (Nj := some 21) #[true, true, true, true, true, true, true, true, true, true, false, false, true, true, false, false, false] #[true, true, true, true, true, true, true, false, true, true, true, false, true, true, false, false, false] rfl rfl rfl rfl (two_of HT_.out (by kernel_rfl)) (by decide) (by decide) (fun K hK => ?_) (fun K hK => ?_)
      · skip
        have hcv := own_string (P := Try.prog) Try.underlying47 Try.underlying5 Try.underlying9 (Kd.own_of_R HR)
        refine value_ (w1 := ?_) (v := ?_) (by rfl) rfl ?_ ?_
        rotate_left 2
        · go_simp
          constructor
          · rfl
          · rfl
        clear hcv
        refine hK.out _ _ hHeld (fun _ => ?_)
        clear hK K
        refine norm_ (a' := ?_) ?_ ?_
        rotate_left
        · show Act.put _ (some 18) _ = _
          simp only [Act.put, List.setIfInBounds_toArray, List.set_cons_zero, List.set_cons_succ, i64_w, i32_w]
          rfl
        exact norm_ (by first | (simp only [putAll, Act.put, List.setIfInBounds_toArray, List.set_cons_zero, List.set_cons_succ]; done) | (simp only [putAll, Act.put, List.setIfInBounds_toArray, List.set_cons_zero, List.set_cons_succ]; rfl)) (hJ20 s_ _ hHeld)
      · skip
        refine may_ Try.func30 (by kernel_rfl) rfl #[.string ky] (by rfl) rfl rfl (by (try simp only [List.map_toArray, List.map_cons, List.map_nil]); first | done | rfl) ?_
        refine (HK.out _).mono ?_
        rintro e w' (⟨hky, rfl, hb⟩ | ⟨hky, rfl, rfl⟩)
        · refine Or.inl ⟨_, rfl, ?_⟩
          replace HR := Kd.R_below HR hb
          replace hHeld := hHeld.step hb
          clear hb
          refine hK.out _ _ hHeld (fun _ => ?_)
          clear hK K
          refine norm_ (a' := ?_) ?_ ?_
          rotate_left
          · show Act.put _ (some 21) _ = _
            simp only [Act.put, List.setIfInBounds_toArray, List.set_cons_zero, List.set_cons_succ, i64_w, i32_w]
            rfl
          exact norm_ (by first | (simp only [putAll, Act.put, List.setIfInBounds_toArray, List.set_cons_zero, List.set_cons_succ]; done) | (simp only [putAll, Act.put, List.setIfInBounds_toArray, List.set_cons_zero, List.set_cons_succ]; rfl)) (hJ11 s_ _ ⟨hHeld, HR, hky⟩)
        · exact Or.inr ⟨_, rfl, Or.inl hky, rfl, rfl, rfl, rfl, rfl, hHeld⟩
    intro hJ10
    refine two_ (i := 6) (j := 10) (Ni := some 17) (Nj := some 21) #[true, true, true, true, true, true, true, false, true, true, false, false, true, true, false, false, false] #[true, true, true, true, true, true, false, false, true, true, true, false, true, true, false, false, false] rfl rfl rfl rfl (two_of HT_.out (by kernel_rfl)) (by decide) (by decide) (fun K hK => ?_) (fun K hK => ?_)
    · skip
      refine Kd.R_lit_step (Kd.int .u8) _ 5 ?hg (N := 17) ?hd (xs := [st % 256, gr % 256]) (inner := [.int .u8 (st % 256), .int .u8 (gr % 256)]) (ok := fun _ => True) (okp := fun _ => True) ?hr ?hp (fun _ hk => hk) trivial (Below.refl _ _) (Nat.le_refl _) (by simp) ?_; (case hd => rfl); (case hg => rfl); (case hr => first | (go_simp; done) | (go_simp; rfl)); (case hp => exact (Reps.one (show Kd.M (Kd.int .u8) _ _ _ (st % 256) [.int .u8 (st % 256)] from rfl) (Reps.one (show Kd.M (Kd.int .u8) _ _ _ (gr % 256) [.int .u8 (gr % 256)] from rfl) (Reps.none _ _))))
      intro v1 w1 HR hb hg_ hnew_
      replace HR := Kd.R_lower HR hHeld.below.size
      replace hHeld := hHeld.step hb
      clear hg_ hnew_ hb
      refine hK.out _ _ hHeld (fun _ => ?_)
      clear hK K
      refine norm_ (a' := ?_) ?_ ?_
      rotate_left
      · show Act.put _ (some 17) _ = _
        simp only [Act.put, List.setIfInBounds_toArray, List.set_cons_zero, List.set_cons_succ, i64_w, i32_w]
        rfl
      exact norm_ (by first | (simp only [putAll, Act.put, List.setIfInBounds_toArray, List.set_cons_zero, List.set_cons_succ]; done) | (simp only [putAll, Act.put, List.setIfInBounds_toArray, List.set_cons_zero, List.set_cons_succ]; rfl)) (hJ10 v1 _ ⟨hHeld, HR⟩)
    · skip
      refine may_ Try.func30 (by kernel_rfl) rfl #[.string ky] (by rfl) rfl rfl (by (try simp only [List.map_toArray, List.map_cons, List.map_nil]); first | done | rfl) ?_
      refine (HK.out _).mono ?_
      rintro e w' (⟨hky, rfl, hb⟩ | ⟨hky, rfl, rfl⟩)
      · refine Or.inl ⟨_, rfl, ?_⟩
        replace hHeld := hHeld.step hb
        clear hb
        refine hK.out _ _ hHeld (fun _ => ?_)
        clear hK K
        refine norm_ (a' := ?_) ?_ ?_
        rotate_left
        · show Act.put _ (some 21) _ = _
          simp only [Act.put, List.setIfInBounds_toArray, List.set_cons_zero, List.set_cons_succ, i64_w, i32_w]
          rfl
        exact norm_ (by first | (simp only [putAll, Act.put, List.setIfInBounds_toArray, List.set_cons_zero, List.set_cons_succ]; done) | (simp only [putAll, Act.put, List.setIfInBounds_toArray, List.set_cons_zero, List.set_cons_succ]; rfl)) (hJ01 () _ ⟨hHeld, hky⟩)
      · exact Or.inr ⟨_, rfl, Or.inl hky, rfl, rfl, rfl, rfl, rfl, hHeld⟩
end Go.Proofs.Ytjlpliapofndcaa.Keys
