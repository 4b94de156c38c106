/- The walk of keys.Range; this text is printed by a program of this session (wip/keysgen2.py): the same words for each number of parts. -/
import Derived.Test.YtjlpliapofndcaaKeys
import Derived.Test.YtjlpliapofndcaaPKeys
import Derived.Test.YtjlpliapofndcaaCodeT
import Derived.Lib.ConvBytes
import Derived.LoopTactic
namespace Go.Proofs.Ytjlpliapofndcaa.Keys
open Go.RowKit Aid Go.Proofs.YtjlpliapofndcaaW.PrintWords Go.Proofs.YtjlpliapofndcaaW.PrintLast Go.Proofs.YtjlpliapofndcaaW.PrintMore
set_option linter.unusedVariables false
set_option linter.unusedSimpArgs false
theorem str1 (x : Int) (W : World) : (convert 47 9 (.slice (some ⟨W.heap.size, 0, none⟩) 1 1)).run Try.prog (W.alloc (.cells #[.int .u8 x] 5)) = .ok (.string (strOfNums [x])) (W.alloc (.cells #[.int .u8 x] 5)) := by
  refine run_convert_bytes_arg (P := Try.prog) (W.alloc (.cells #[.int .u8 x] 5)) 47 5 Try.underlying47 Try.underlying5 W.heap.size 0 1 1 [x] rfl (fun i hi => ?_) 9 Try.underlying9
  obtain rfl : i = 0 := by omega
  exact (Box.new W (.int .u8 x) 5).cell
/-- the bytes of a text, in memory -/
structure Lies (W : World) (g : Nat) (F : ByteArray) : Prop where
  cell : ∀ j, j < F.size → W.cell? ⟨g, j, none⟩ = some (.int .u8 (F.data.toList.getD j 0).toNat)
  free : ∀ j, j < F.size → W.frozen? ⟨g, j, none⟩ = false
theorem Kept.conv {w W : World} {st gr : Int} {ky sp sb r1 r2 : ByteArray} {r3 : Int} (h : Kept w W st gr ky sp sb r1 r2 r3) (F : ByteArray) :
    Kept w (Lib.bytesWorld W 5 F) st gr ky sp sb r1 r2 r3 ∧ Lies (Lib.bytesWorld W 5 F) W.heap.size F ∧ w.heap.size + 4 ≤ W.heap.size := by
  refine ⟨h.step (bytes_below (Below.refl _ W) (Nat.le_refl _) 5 F), ⟨fun j hj => Lib.bytesWorld_cell W 5 F j hj, fun j hj => ?_⟩, ?_⟩
  · simp only [World.frozen?, Lib.bytesWorld_at_new]
    have h1 : F.size ≤ (Lib.bytesCells W 5 F).size := by simp [Lib.bytesCells]
    simp only [Bool.and_eq_false_iff, decide_eq_false_iff_not]
    omega
  · have := blk_lt h.three
    omega
theorem Lies.drew {W : World} {g : Nat} {F : ByteArray} (h : Lies W g F) : Lies W.drew g F := ⟨fun j hj => h.cell j hj, fun j hj => h.free j hj⟩
theorem Lies.far {W : World} {g : Nat} {F : ByteArray} (h : Lies W g F) {q : Addr} (hq : q.block ≠ g) (u : Value) : Lies (W.setCell q u) g F :=
  ⟨fun j hj => (cell_far (a := ⟨g, j, none⟩) (fun e => hq e.symm) u).trans (h.cell j hj), fun j hj => (World.frozen?_setCell _ _ _ _).trans (h.free j hj)⟩
theorem Lies.text {W : World} {g : Nat} {F : ByteArray} (h : Lies W g F) {n : Nat} (hn : F.size = n) (cap : Nat) : (convert 47 9 (.slice (some ⟨g, 0, none⟩) n cap)).run Try.prog W = .ok (.string F) W := by
  have h1 := run_convert_bytes_arg (P := Try.prog) W 47 5 Try.underlying47 Try.underlying5 g 0 n cap (F.data.toList.map fun c => (c.toNat : Int)) (by simp; omega) (fun i hi => ?_) 9 Try.underlying9
  · rw [h1, CodeW.strOf_cells]
  · have h2 := h.cell i (by omega)
    have h3 : i < F.data.toList.length := by simp; omega
    rw [Nat.zero_add, h2]
    simp only [List.getD_eq_getElem?_getD, List.getElem?_map, List.getElem?_eq_getElem h3, Option.map_some, Option.getD_some]
/-- behind all that begin with these bytes -/
def nx (F : ByteArray) : ByteArray := ⟨(PKeys.next F.data.toList).toArray⟩
theorem nx_list {F : ByteArray} {n : Nat} (hn : F.size = n + 1) : PKeys.next F.data.toList = F.data.toList.take n ++ [F.data.toList.getD n 0 + 1] := by
  have h1 : F.data.toList.length = n + 1 := by simp; exact hn
  have h2 : F.data.toList = F.data.toList.take n ++ [F.data.toList.getD n 0] := by
    conv => lhs; rw [← List.take_append_drop n F.data.toList]
    rw [List.drop_eq_getElem_cons (by omega), List.drop_of_length_le (by omega), List.getD_eq_getElem?_getD, List.getElem?_eq_getElem (by omega)]
    rfl
  rw [h2, PKeys.next_snoc, ← h2]
theorem Lies.bump {W : World} {g n cl : Nat} {F : ByteArray} (h : Lies W g F) (hn : F.size = n + 1) (hc : (F.data.toList.getD n 0).toNat = cl) (hl : cl < 255) :
    Lies (W.setCell ⟨g, n, none⟩ (.int .u8 ((cl : Int) + 1))) g (nx F) ∧ (nx F).size = n + 1 := by
  have h1 : F.data.toList.length = n + 1 := by simp; exact hn
  have h2 := nx_list hn
  have h3 : (nx F).size = n + 1 := by
    show (PKeys.next F.data.toList).toArray.size = n + 1
    rw [h2]
    simp
    omega
  refine ⟨⟨fun j hj => ?_, fun j hj => (World.frozen?_setCell _ _ _ _).trans (h.free j (by omega))⟩, h3⟩
  show _ = some (Value.int .u8 ((PKeys.next F.data.toList).getD j 0).toNat)
  rw [h2]
  by_cases hj2 : j = n
  · subst hj2
    rw [World.cell?_setCell_same' _ _ _ (by rw [h.cell j (by omega)]; rfl)]
    rw [List.getD_eq_getElem?_getD, List.getElem?_append_right (by simp; omega)]
    have h5 : (F.data.toList.getD j 0 + 1).toNat = cl + 1 := by
      rw [UInt8.toNat_add, hc]
      show (cl + 1) % 256 = cl + 1
      omega
    simp only [List.length_take, h1]
    rw [show j - min j (j + 1) = 0 by omega]
    simp only [List.getElem?_cons_zero, Option.getD_some, h5]
    rfl
  · have h6 : j < n := by omega
    rw [World.cell?_setCell_other _ _ _ _ (by simp [hj2])]
    rw [h.cell j (by omega)]
    rw [List.getD_eq_getElem?_getD, List.getD_eq_getElem?_getD, List.getElem?_append_left (by simp; omega), List.getElem?_take, if_pos h6]
/-- not empty, not too long, its last byte not 255 -/
def Fine (F : ByteArray) : Prop := ∃ n, F.size = n + 1 ∧ n ≤ 1000 ∧ (F.data.toList.getD n 0).toNat < 255
theorem fine_snoc {F : ByteArray} {l : List UInt8} {c : UInt8} (h : F.data.toList = l ++ [c]) (hl : l.length ≤ 1000) (hc : c.toNat < 255) : Fine F := by
  refine ⟨l.length, ?_, hl, ?_⟩
  · have : F.data.toList.length = l.length + 1 := by rw [h]; simp
    simpa using this
  · rw [h, List.getD_eq_getElem?_getD, List.getElem?_append_right (by omega)]
    simpa using hc
theorem ofInt_lt {x : Int} (h0 : 0 ≤ x) (h1 : x < 64) : (UInt8.ofNat x.toNat).toNat < 255 := by
  rw [UInt8.toNat_ofNat']
  omega
theorem fine_one {x : Int} (h0 : 0 ≤ x) (h1 : x < 64) : Fine (strOfNums [x]) := fine_snoc (l := []) (c := UInt8.ofNat x.toNat) rfl (by simp) (ofInt_lt h0 h1)
theorem fine_two {F : ByteArray} {x : Int} (hF : F.size ≤ 900) (h0 : 0 ≤ x) (h1 : x < 64) : Fine (F ++ strOfNums [x]) :=
  fine_snoc (l := F.data.toList) (c := UInt8.ofNat x.toNat) (by rw [ByteArray.data_append, Array.toList_append]; rfl) (by simp; omega) (ofInt_lt h0 h1)
theorem fine_pt {F s : ByteArray} (hF : F.size ≤ 800) (hs : s.size ≤ 64) : Fine (F ++ pt s) := by
  have h1 := encT_small s.data.toList
  have h2 : s.data.toList.length = s.size := by simp
  have h3 : F.data.toList.length = F.size := by simp
  refine fine_snoc (l := F.data.toList ++ (PCode.encT s.data.toList ++ [0])) (c := 1) ?_ ?_ (by decide)
  · rw [ByteArray.data_append, Array.toList_append]
    show F.data.toList ++ PCode.putText s.data.toList = _
    rw [PCode.putText_enc]
    simp
  · simp only [List.length_append, List.length_cons, List.length_nil]
    omega
/-- behind the last region: all is stored -/
def Fin3 (w : World) (st gr : Int) (ky sp sb F G : ByteArray) (e : Exit) (a : Act) (W : World) : Prop :=
  match e with
  | .normal => a.tmps[4]? = some (.pointer (some ⟨w.heap.size + 1, 0, none⟩)) ∧ a.tmps[5]? = some (.pointer (some ⟨w.heap.size + 1 + 1, 0, none⟩)) ∧ a.tmps[6]? = some (.pointer (some ⟨w.heap.size + 1 + 1 + 1, 0, none⟩)) ∧ a.defers = door3 w.heap.size ∧ Kept w W st gr ky sp sb F G 0
  | _ => False
/-- behind region 9: the store is done, or the part was too long -/
def Past9 (w : World) (p st gr : Int) (ky sp sb F t : ByteArray) (n : Nat) (e : Exit) (a : Act) (W : World) : Prop :=
  match e with
  | .normal => n ≤ 64 ∧ Kept w W st gr ky sp sb (F ++ t) ⟨#[]⟩ 0 ∧ ∃ x0 x8 x9 x10 x11 x12 x13 x14 x15 x16 x17 x18 x19 x20 x21 x22 x23 x24 x25 x26 x27 x28 x29 x30 x31 x32 x33 x34 x35 x36 x37 x38 : Value, a = { tmps := #[x0, .int .i64 p, .pointer (some ⟨w.heap.size, 0, none⟩), undef, .pointer (some ⟨w.heap.size + 1, 0, none⟩), .pointer (some ⟨w.heap.size + 1 + 1, 0, none⟩), .pointer (some ⟨w.heap.size + 1 + 1 + 1, 0, none⟩), undef, x8, x9, x10, x11, x12, x13, x14, x15, x16, x17, x18, x19, x20, x21, x22, x23, x24, x25, x26, x27, x28, x29, x30, x31, x32, x33, x34, x35, x36, x37, x38, undef, undef, undef, undef, undef, undef, undef, undef, undef, undef, undef, undef, undef, undef, undef, undef, undef, undef, undef, undef, undef, undef, undef, undef, undef, undef, undef, undef, undef, undef, undef, undef], defers := door3 w.heap.size }
  | .panic c => 64 < n ∧ c = [{ v := wrongV 3, recovered := false }] ∧ a.tmps[4]? = some (.pointer (some ⟨w.heap.size + 1, 0, none⟩)) ∧ a.tmps[5]? = some (.pointer (some ⟨w.heap.size + 1 + 1, 0, none⟩)) ∧ a.tmps[6]? = some (.pointer (some ⟨w.heap.size + 1 + 1 + 1, 0, none⟩)) ∧ a.defers = door3 w.heap.size ∧ Kept w W st gr ky sp sb F ⟨#[]⟩ 0
  | _ => False
theorem Past9.put {w W : World} {p st gr : Int} {ky sp sb F t : ByteArray} {c : List PanicEntry} {a : Act} {v : Value} {m : Nat} (n : Nat) (h4 : n ≠ 4) (h5 : n ≠ 5) (h6 : n ≠ 6) (h : Past9 w p st gr ky sp sb F t m (.panic c) (a.put (some n) v) W) : Past9 w p st gr ky sp sb F t m (.panic c) a W := by
  obtain ⟨g1, g2, g3, g4, g5, g6, g7⟩ := h
  refine ⟨g1, g2, ?_, ?_, ?_, g6, g7⟩
  · simpa [Act.put, Array.getElem?_setIfInBounds, h4] using g3
  · simpa [Act.put, Array.getElem?_setIfInBounds, h5] using g4
  · simpa [Act.put, Array.getElem?_setIfInBounds, h6] using g5
/-- behind region 11: the store is done, or the part was too long -/
def Past11 (w : World) (p st gr : Int) (ky sp sb F t : ByteArray) (n : Nat) (e : Exit) (a : Act) (W : World) : Prop :=
  match e with
  | .normal => n ≤ 64 ∧ Kept w W st gr ky sp sb (F ++ t) ⟨#[]⟩ 0 ∧ ∃ x0 x8 x9 x10 x11 x12 x13 x14 x15 x16 x17 x18 x19 x20 x21 x22 x23 x24 x25 x26 x27 x28 x29 x30 x31 x32 x33 x34 x35 x36 x37 x38 x39 x40 x41 x42 x43 x44 x45 : Value, a = { tmps := #[x0, .int .i64 p, .pointer (some ⟨w.heap.size, 0, none⟩), undef, .pointer (some ⟨w.heap.size + 1, 0, none⟩), .pointer (some ⟨w.heap.size + 1 + 1, 0, none⟩), .pointer (some ⟨w.heap.size + 1 + 1 + 1, 0, none⟩), undef, x8, x9, x10, x11, x12, x13, x14, x15, x16, x17, x18, x19, x20, x21, x22, x23, x24, x25, x26, x27, x28, x29, x30, x31, x32, x33, x34, x35, x36, x37, x38, x39, x40, x41, x42, x43, x44, x45, undef, undef, undef, undef, undef, undef, undef, undef, undef, undef, undef, undef, undef, undef, undef, undef, undef, undef, undef, undef, undef, undef, undef, undef, undef], defers := door3 w.heap.size }
  | .panic c => 64 < n ∧ c = [{ v := wrongV 3, recovered := false }] ∧ a.tmps[4]? = some (.pointer (some ⟨w.heap.size + 1, 0, none⟩)) ∧ a.tmps[5]? = some (.pointer (some ⟨w.heap.size + 1 + 1, 0, none⟩)) ∧ a.tmps[6]? = some (.pointer (some ⟨w.heap.size + 1 + 1 + 1, 0, none⟩)) ∧ a.defers = door3 w.heap.size ∧ Kept w W st gr ky sp sb F ⟨#[]⟩ 0
  | _ => False
theorem Past11.put {w W : World} {p st gr : Int} {ky sp sb F t : ByteArray} {c : List PanicEntry} {a : Act} {v : Value} {m : Nat} (n : Nat) (h4 : n ≠ 4) (h5 : n ≠ 5) (h6 : n ≠ 6) (h : Past11 w p st gr ky sp sb F t m (.panic c) (a.put (some n) v) W) : Past11 w p st gr ky sp sb F t m (.panic c) a W := by
  obtain ⟨g1, g2, g3, g4, g5, g6, g7⟩ := h
  refine ⟨g1, g2, ?_, ?_, ?_, g6, g7⟩
  · simpa [Act.put, Array.getElem?_setIfInBounds, h4] using g3
  · simpa [Act.put, Array.getElem?_setIfInBounds, h5] using g4
  · simpa [Act.put, Array.getElem?_setIfInBounds, h6] using g5
set_option maxHeartbeats 4000000 in
set_option maxRecDepth 100000 in
theorem range_parts (p st gr : Int) (ky sp sb : ByteArray) (hp0 : -9223372036854775808 ≤ p) (hp1 : p ≤ 9223372036854775807) (hp2 : p < 1 ∨ 4 < p) (w : World) :
    Calls Try.prog 21 #[.agg #[.int .i64 st, .int .i64 gr, .string ky, .string sp, .string sb], .int .i64 p] w fun e w' => e = .returned (.tuple #[.string ⟨#[]⟩, .string ⟨#[]⟩, .int .i64 2]) ∧ Below w.heap.size w w' := by
  have hmf : ∀ (fn : Fn) (first cap : Array Value) (w : World), (Instr.makeFunc fn first cap).run Try.prog w = .ok (.func fn first cap) w := fun _ _ _ _ => rfl
  have hs1 := str1
  have kb := fun (F : ByteArray) (W : World) => Lib.run_convert_string_bytes (P := Try.prog) W 9 47 5 F Try.underlying9 Try.underlying47 Try.underlying5
  go_enter_defers Try.func21, Try.ntmps21
  go_wp2_with fail
  have hh := Kept.new w st gr ky sp sb ⟨#[]⟩ ⟨#[]⟩ 0
  generalize (((w.alloc (.cells #[.int .i64 st, .int .i64 gr, .string ky, .string sp, .string sb] 23)).alloc (.cells #[.string ⟨#[]⟩] 9)).alloc (.cells #[.string ⟨#[]⟩] 9)).alloc (.cells #[.int .i64 0] 24) = W at hh ⊢
  refine (within_any _ _ _).mono ?_
  rintro e w1 (⟨hq, rfl, rfl⟩ | ⟨hq, rfl, rfl⟩)
  · exfalso
    unfold wrap64 at hq
    omega
  · exact door3_panic 2 hh rfl rfl rfl rfl (fun W' hW => ⟨rfl, hW⟩)
set_option maxHeartbeats 8000000 in
set_option maxRecDepth 100000 in
theorem range_1 (st gr : Int) (ky sp sb : ByteArray) (w : World) :
    Calls Try.prog 21 #[.agg #[.int .i64 st, .int .i64 gr, .string ky, .string sp, .string sb], .int .i64 1] w fun e w' => ((∃ r : Int, (((st < 0 ∨ 64 ≤ st) ∧ r = 2) ∨ ((0 ≤ st ∧ st < 64) ∧ (False) ∧ r = 3)) ∧ e = .returned (.tuple #[.string ⟨#[]⟩, .string ⟨#[]⟩, .int .i64 r])) ∨
      ((0 ≤ st ∧ st < 64) ∧ True) ∧ e = .returned (.tuple #[.string (strOfNums [st]), .string (nx (strOfNums [st])), .int .i64 0])) ∧ Below w.heap.size w w' := by
  have hmf : ∀ (fn : Fn) (first cap : Array Value) (w : World), (Instr.makeFunc fn first cap).run Try.prog w = .ok (.func fn first cap) w := fun _ _ _ _ => rfl
  have hs1 := str1
  have kb := fun (F : ByteArray) (W : World) => Lib.run_convert_string_bytes (P := Try.prog) W 9 47 5 F Try.underlying9 Try.underlying47 Try.underlying5
  go_enter_defers Try.func21, Try.ntmps21
  go_wp2_with fail
  have hh := Kept.new w st gr ky sp sb ⟨#[]⟩ ⟨#[]⟩ 0
  generalize (((w.alloc (.cells #[.int .i64 st, .int .i64 gr, .string ky, .string sp, .string sb] 23)).alloc (.cells #[.string ⟨#[]⟩] 9)).alloc (.cells #[.string ⟨#[]⟩] 9)).alloc (.cells #[.int .i64 0] 24) = W at hh ⊢
  refine (within_any _ _ _).mono ?_
  rintro e w1 (⟨hq, rfl, rfl⟩ | ⟨hq, rfl, rfl⟩)
  rotate_left
  · exfalso
    first | (unfold wrap64 at hq; omega) | omega
  clear hq
  have c0 := hh.c0
  go_wp2_with fail
  refine (within_any _ _ _).mono ?_
  rintro e w1 (⟨hst, rfl, rfl⟩ | ⟨hst, rfl, rfl⟩)
  rotate_left
  · exact door3_panic 2 hh rfl rfl rfl rfl (fun W' hW => ⟨Or.inl ⟨2, Or.inl ⟨by omega, rfl⟩, rfl⟩, hW⟩)
  have hk1 := hh.step ((Below.refl _ w1).alloc (Nat.le_refl _) (.cells #[.int .u8 st] 5))
  have hb1 := hk1.b1.cell
  have hf1 := hk1.b1.free
  have hk2 := hk1.store (strOfNums [st])
  have hb2 := hk2.b1.cell
  go_wp2_with fail
  have hsF : (strOfNums [st]).size = 1 := by rw [strOfNums_size]; rfl
  have hfine := fine_one hst.1 hst.2
  clear hb2 hb1 hf1 hk1 c0 hh hmf
  clear kb hs1
  obtain ⟨F, hF⟩ : ∃ F : ByteArray, F = strOfNums [st] := ⟨_, rfl⟩
  rw [← hF] at hk2 hsF hfine ⊢
  have HF := Lib.hid hF
  clear hF
  generalize hW2 : (w1.alloc (.cells #[.int .u8 st] 5)).setCell ⟨w.heap.size + 1, 0, none⟩ (.string F) = W2 at hk2 ⊢
  have hg1 : w1.heap.size + 1 = W2.heap.size := by rw [← hW2]; simp
  rw [hg1]
  clear hg1 hW2
  obtain ⟨n, hn, hnb, hlast⟩ := hfine
  obtain ⟨hkv, hB, hg⟩ := hk2.conv F
  have hB1 := hB.cell n (by omega)
  have hB2 := hB.free n (by omega)
  generalize hcl : (F.data.toList.getD n 0).toNat = cl at hB1 hlast
  rw [hn]
  generalize grownCap W2 (n + 1) 0 5 = cap
  generalize Lib.bytesWorld W2 5 F = W3 at hkv hB hB1 hB2 ⊢
  generalize W2.heap.size = g at hB hB1 hB2 hg ⊢
  clear hk2
  try clear W2
  go_loopw [7] (fun v7 wr => v7 = .slice (some ⟨g, 0, none⟩) (n + 1) cap ∧ wr = W3) (fun _ _ => 0)
  case atStart => exact ⟨rfl, rfl⟩
  case round =>
    obtain ⟨rfl, rfl⟩ := hrel
    have h255 : ((cl : Int) == 255) = false := by simp; omega
    go_wp2_with fail
    obtain ⟨hL, hL2⟩ := hB.bump hn hcl hlast
    have hk4 := hkv.far (p := ⟨g, n, none⟩) hg (.int .u8 ((cl : Int) + 1))
    generalize wr.setCell ⟨g, n, none⟩ (.int .u8 ((cl : Int) + 1)) = W4 at hL hk4 ⊢
    clear hB1 hB2 hB hkv
    refine wp_mono (Q := Fin3 w st gr ky sp sb F (nx F)) ?reg ?rest
    case rest =>
      rename_i a0
      rintro e a W5 h
      match e, h with
      | .normal, ⟨g1, g2, g3, g4, hk5⟩ =>
        refine a0 _ _ ?_
        go_wp2_with fail
        exact door3_ret hk5 g1 g2 g3 g4 ⟨Or.inr ⟨⟨hst, trivial⟩, by rw [← HF.out]⟩, hk5.below⟩
    case reg =>
      rename_i a0
      clear a0
      have hv1 := hL.drew.text hL2 cap
      have hv2 := (hL.far (q := ⟨w.heap.size + 1, 0, none⟩) (by simp; omega) (.string F)).drew.text hL2 cap
      have b1 := hk4.b1.cell
      have b2 := hk4.b1.free
      have b3 := hk4.b2.cell
      have b4 := hk4.b2.free
      have b5 := hk4.b3.cell
      have b6 := hk4.b3.free
      have hfin := (((hk4.drew.store F).store2 (nx F)).store3 0)
      go_region
      all_goals exact ⟨rfl, rfl, rfl, rfl, hfin⟩
set_option maxHeartbeats 8000000 in
set_option maxRecDepth 100000 in
theorem range_2 (st gr : Int) (ky sp sb : ByteArray) (w : World) :
    Calls Try.prog 21 #[.agg #[.int .i64 st, .int .i64 gr, .string ky, .string sp, .string sb], .int .i64 2] w fun e w' => ((∃ r : Int, (((st < 0 ∨ 64 ≤ st ∨ gr < 0 ∨ 64 ≤ gr) ∧ r = 2) ∨ ((0 ≤ st ∧ st < 64) ∧ (0 ≤ gr ∧ gr < 64) ∧ (False) ∧ r = 3)) ∧ e = .returned (.tuple #[.string ⟨#[]⟩, .string ⟨#[]⟩, .int .i64 r])) ∨
      ((0 ≤ st ∧ st < 64) ∧ (0 ≤ gr ∧ gr < 64)) ∧ e = .returned (.tuple #[.string (strOfNums [st] ++ strOfNums [gr]), .string (nx (strOfNums [st] ++ strOfNums [gr])), .int .i64 0])) ∧ Below w.heap.size w w' := by
  have hmf : ∀ (fn : Fn) (first cap : Array Value) (w : World), (Instr.makeFunc fn first cap).run Try.prog w = .ok (.func fn first cap) w := fun _ _ _ _ => rfl
  have hs1 := str1
  have kb := fun (F : ByteArray) (W : World) => Lib.run_convert_string_bytes (P := Try.prog) W 9 47 5 F Try.underlying9 Try.underlying47 Try.underlying5
  go_enter_defers Try.func21, Try.ntmps21
  go_wp2_with fail
  have hh := Kept.new w st gr ky sp sb ⟨#[]⟩ ⟨#[]⟩ 0
  generalize (((w.alloc (.cells #[.int .i64 st, .int .i64 gr, .string ky, .string sp, .string sb] 23)).alloc (.cells #[.string ⟨#[]⟩] 9)).alloc (.cells #[.string ⟨#[]⟩] 9)).alloc (.cells #[.int .i64 0] 24) = W at hh ⊢
  refine (within_any _ _ _).mono ?_
  rintro e w1 (⟨hq, rfl, rfl⟩ | ⟨hq, rfl, rfl⟩)
  rotate_left
  · exfalso
    first | (unfold wrap64 at hq; omega) | omega
  clear hq
  have c0 := hh.c0
  go_wp2_with fail
  refine (within_any _ _ _).mono ?_
  rintro e w1 (⟨hst, rfl, rfl⟩ | ⟨hst, rfl, rfl⟩)
  rotate_left
  · exact door3_panic 2 hh rfl rfl rfl rfl (fun W' hW => ⟨Or.inl ⟨2, Or.inl ⟨by omega, rfl⟩, rfl⟩, hW⟩)
  have hk1 := hh.step ((Below.refl _ w1).alloc (Nat.le_refl _) (.cells #[.int .u8 st] 5))
  have hb1 := hk1.b1.cell
  have hf1 := hk1.b1.free
  have hk2 := hk1.store (strOfNums [st])
  have hb2 := hk2.b1.cell
  have c1 := hk2.c1
  go_wp2_with fail
  have hsF : (strOfNums [st]).size = 1 := by rw [strOfNums_size]; rfl
  have hfine := fine_one hst.1 hst.2
  clear hb2 hb1 hf1 hk1 c0 hh hmf
  obtain ⟨F, hF⟩ : ∃ F : ByteArray, F = strOfNums [st] := ⟨_, rfl⟩
  rw [← hF] at hk2 hsF hfine ⊢
  have HF := Lib.hid hF
  clear hF
  generalize hW2 : (w1.alloc (.cells #[.int .u8 st] 5)).setCell ⟨w.heap.size + 1, 0, none⟩ (.string F) = W2 at hk2 ⊢
  clear hW2
  refine (within_any _ _ _).mono ?_
  rintro e w2 (⟨hgr, rfl, rfl⟩ | ⟨hgr, rfl, rfl⟩)
  rotate_left
  · exact door3_panic 2 hk2 rfl rfl rfl rfl (fun W' hW => ⟨Or.inl ⟨2, Or.inl ⟨by omega, rfl⟩, rfl⟩, hW⟩)
  have hk1 := hk2.step ((Below.refl _ w2).alloc (Nat.le_refl _) (.cells #[.int .u8 gr] 5))
  have c1b := hk2.c1
  have hb0 := hk2.b1.cell
  have hb1 := hk1.b1.cell
  have hf1 := hk1.b1.free
  have hz0 : (9223372036854775807 < F.size + (strOfNums [gr]).size) = False := eq_false (by rw [strOfNums_size, hsF]; simp)
  have hk3 := hk1.store (F ++ strOfNums [gr])
  have hb2 := hk3.b1.cell
  have hc2 := hk3.c2
  clear hsF
  go_wp2_with fail
  have hfine2 := fine_two (F := F) (x := gr) (by rw [HF.out, strOfNums_size]; simp) hgr.1 hgr.2
  have hsF := Lib.hid (show (F ++ strOfNums [gr]).size = 2 by rw [ByteArray.size_append, HF.out, strOfNums_size, strOfNums_size]; rfl)
  try simp only [← ByteArray.size_append]
  clear hb2 hb1 hf1 hk1 hb0 hz0 hfine hk2 hc2 c1b
  clear kb hs1
  replace HF := Lib.hid (show F ++ strOfNums [gr] = strOfNums [st] ++ strOfNums [gr] by rw [HF.out])
  generalize F ++ strOfNums [gr] = F2 at HF hk3 hfine2 hsF ⊢
  generalize hW2 : (w2.alloc (.cells #[.int .u8 gr] 5)).setCell ⟨w.heap.size + 1, 0, none⟩ (.string F2) = W2b at hk3 ⊢
  have hg1 : w2.heap.size + 1 = W2b.heap.size := by rw [← hW2]; simp
  rw [hg1]
  clear hg1 hW2
  obtain ⟨n, hn, hnb, hlast⟩ := hfine2
  obtain ⟨hkv, hB, hg⟩ := hk3.conv F2
  have hB1 := hB.cell n (by omega)
  have hB2 := hB.free n (by omega)
  generalize hcl : (F2.data.toList.getD n 0).toNat = cl at hB1 hlast
  rw [hn]
  generalize grownCap W2b (n + 1) 0 5 = cap
  generalize Lib.bytesWorld W2b 5 F2 = W3 at hkv hB hB1 hB2 ⊢
  generalize W2b.heap.size = g at hB hB1 hB2 hg ⊢
  clear hk3
  try clear W2b
  go_loopw [7] (fun v7 wr => v7 = .slice (some ⟨g, 0, none⟩) (n + 1) cap ∧ wr = W3) (fun _ _ => 0)
  case atStart => exact ⟨rfl, rfl⟩
  case round =>
    obtain ⟨rfl, rfl⟩ := hrel
    have h255 : ((cl : Int) == 255) = false := by simp; omega
    go_wp2_with fail
    obtain ⟨hL, hL2⟩ := hB.bump hn hcl hlast
    have hk4 := hkv.far (p := ⟨g, n, none⟩) hg (.int .u8 ((cl : Int) + 1))
    generalize wr.setCell ⟨g, n, none⟩ (.int .u8 ((cl : Int) + 1)) = W4 at hL hk4 ⊢
    clear hB1 hB2 hB hkv
    refine wp_mono (Q := Fin3 w st gr ky sp sb F2 (nx F2)) ?reg ?rest
    case rest =>
      rename_i a0
      rintro e a Wz h
      match e, h with
      | .normal, ⟨g1, g2, g3, g4, hkz⟩ =>
        refine a0 _ _ ?_
        go_wp2_with fail
        exact door3_ret hkz g1 g2 g3 g4 ⟨Or.inr ⟨⟨hst, hgr⟩, by rw [← HF.out]⟩, hkz.below⟩
    case reg =>
      rename_i a0
      clear a0
      have hv1 := hL.drew.text hL2 cap
      have hv2 := (hL.far (q := ⟨w.heap.size + 1, 0, none⟩) (by simp; omega) (.string F2)).drew.text hL2 cap
      have b1 := hk4.b1.cell
      have b2 := hk4.b1.free
      have b3 := hk4.b2.cell
      have b4 := hk4.b2.free
      have b5 := hk4.b3.cell
      have b6 := hk4.b3.free
      have hfin := (((hk4.drew.store F2).store2 (nx F2)).store3 0)
      go_region
      all_goals exact ⟨rfl, rfl, rfl, rfl, hfin⟩
set_option maxHeartbeats 8000000 in
set_option maxRecDepth 100000 in
theorem range_3 (st gr : Int) (ky sp sb : ByteArray) (w : World) :
    Calls Try.prog 21 #[.agg #[.int .i64 st, .int .i64 gr, .string ky, .string sp, .string sb], .int .i64 3] w fun e w' => ((∃ r : Int, (((st < 0 ∨ 64 ≤ st ∨ gr < 0 ∨ 64 ≤ gr) ∧ r = 2) ∨ ((0 ≤ st ∧ st < 64) ∧ (0 ≤ gr ∧ gr < 64) ∧ (64 < ky.size) ∧ r = 3)) ∧ e = .returned (.tuple #[.string ⟨#[]⟩, .string ⟨#[]⟩, .int .i64 r])) ∨
      ((0 ≤ st ∧ st < 64) ∧ (0 ≤ gr ∧ gr < 64) ∧ ky.size ≤ 64) ∧ e = .returned (.tuple #[.string (strOfNums [st] ++ strOfNums [gr] ++ pt ky), .string (nx (strOfNums [st] ++ strOfNums [gr] ++ pt ky)), .int .i64 0])) ∧ Below w.heap.size w w' := by
  have hmf : ∀ (fn : Fn) (first cap : Array Value) (w : World), (Instr.makeFunc fn first cap).run Try.prog w = .ok (.func fn first cap) w := fun _ _ _ _ => rfl
  have hs1 := str1
  have kb := fun (F : ByteArray) (W : World) => Lib.run_convert_string_bytes (P := Try.prog) W 9 47 5 F Try.underlying9 Try.underlying47 Try.underlying5
  go_enter_defers Try.func21, Try.ntmps21
  go_wp2_with fail
  have hh := Kept.new w st gr ky sp sb ⟨#[]⟩ ⟨#[]⟩ 0
  generalize (((w.alloc (.cells #[.int .i64 st, .int .i64 gr, .string ky, .string sp, .string sb] 23)).alloc (.cells #[.string ⟨#[]⟩] 9)).alloc (.cells #[.string ⟨#[]⟩] 9)).alloc (.cells #[.int .i64 0] 24) = W at hh ⊢
  refine (within_any _ _ _).mono ?_
  rintro e w1 (⟨hq, rfl, rfl⟩ | ⟨hq, rfl, rfl⟩)
  rotate_left
  · exfalso
    first | (unfold wrap64 at hq; omega) | omega
  clear hq
  have c0 := hh.c0
  go_wp2_with fail
  refine (within_any _ _ _).mono ?_
  rintro e w1 (⟨hst, rfl, rfl⟩ | ⟨hst, rfl, rfl⟩)
  rotate_left
  · exact door3_panic 2 hh rfl rfl rfl rfl (fun W' hW => ⟨Or.inl ⟨2, Or.inl ⟨by omega, rfl⟩, rfl⟩, hW⟩)
  have hk1 := hh.step ((Below.refl _ w1).alloc (Nat.le_refl _) (.cells #[.int .u8 st] 5))
  have hb1 := hk1.b1.cell
  have hf1 := hk1.b1.free
  have hk2 := hk1.store (strOfNums [st])
  have hb2 := hk2.b1.cell
  have c1 := hk2.c1
  go_wp2_with fail
  have hsF : (strOfNums [st]).size = 1 := by rw [strOfNums_size]; rfl
  have hfine := fine_one hst.1 hst.2
  clear hb2 hb1 hf1 hk1 c0 hh hmf
  obtain ⟨F, hF⟩ : ∃ F : ByteArray, F = strOfNums [st] := ⟨_, rfl⟩
  rw [← hF] at hk2 hsF hfine ⊢
  have HF := Lib.hid hF
  clear hF
  generalize hW2 : (w1.alloc (.cells #[.int .u8 st] 5)).setCell ⟨w.heap.size + 1, 0, none⟩ (.string F) = W2 at hk2 ⊢
  clear hW2
  refine (within_any _ _ _).mono ?_
  rintro e w2 (⟨hgr, rfl, rfl⟩ | ⟨hgr, rfl, rfl⟩)
  rotate_left
  · exact door3_panic 2 hk2 rfl rfl rfl rfl (fun W' hW => ⟨Or.inl ⟨2, Or.inl ⟨by omega, rfl⟩, rfl⟩, hW⟩)
  have hk1 := hk2.step ((Below.refl _ w2).alloc (Nat.le_refl _) (.cells #[.int .u8 gr] 5))
  have c1b := hk2.c1
  have hb0 := hk2.b1.cell
  have hb1 := hk1.b1.cell
  have hf1 := hk1.b1.free
  have hz0 : (9223372036854775807 < F.size + (strOfNums [gr]).size) = False := eq_false (by rw [strOfNums_size, hsF]; simp)
  have hk3 := hk1.store (F ++ strOfNums [gr])
  have hb2 := hk3.b1.cell
  have hc2 := hk3.c2
  clear hsF
  go_wp2_with fail
  have hfine2 := fine_two (F := F) (x := gr) (by rw [HF.out, strOfNums_size]; simp) hgr.1 hgr.2
  have hsF := Lib.hid (show (F ++ strOfNums [gr]).size = 2 by rw [ByteArray.size_append, HF.out, strOfNums_size, strOfNums_size]; rfl)
  try simp only [← ByteArray.size_append]
  clear hb2 hb1 hf1 hk1 hb0 hz0 hfine hk2 hc2 c1b
  replace HF := Lib.hid (show F ++ strOfNums [gr] = strOfNums [st] ++ strOfNums [gr] by rw [HF.out])
  generalize F ++ strOfNums [gr] = F2 at HF hk3 hfine2 hsF ⊢
  generalize hW2 : (w2.alloc (.cells #[.int .u8 gr] 5)).setCell ⟨w.heap.size + 1, 0, none⟩ (.string F2) = W2b at hk3 ⊢
  clear hW2
  refine wp_mono (Q := Past9 w 3 st gr ky sp sb F2 (pt ky) ky.size) ?reg9 ?rest9
  case reg9 =>
    rename_i a0
    clear a0
    refine start_ (n := 6) (S := fun W => Kept w W st gr ky sp sb F2 ⟨#[]⟩ 0) (ds := [5]) #[false, false, false, false, false, false] (by kernel_rfl) rfl rfl hk3.drew (fun hHeld => ?_)
    generalize W2b.drew = W0 at hHeld ⊢
    refine pure_ (i := 1) (N := some 35) (v := ?_) (a' := ?_) #[false, true, false, false, false, false] rfl rfl (by kernel_rfl) (fun _ _ _ h => Past9.put 35 (by decide) (by decide) (by decide) h) (Or.inl ⟨by rfl, ?_⟩) ?_ ?_
    rotate_left
    · intro w'
      go_simp
      with_reducible rfl
    rotate_left
    · simp only [Act.put, List.setIfInBounds_toArray, List.set_cons_zero, List.set_cons_succ, i64_w, i32_w]
      rfl
    refine take_ (i := 0) (N := some 34) (v := ?_) (a' := ?_) #[true, true, false, false, false, false] rfl rfl (by kernel_rfl) (fun _ _ _ h => Past9.put 34 (by decide) (by decide) (by decide) h) (Or.inl ⟨by rfl, ?_⟩) hHeld ?_ ?_
    rotate_left
    · intro w' hs
      have s0 := hs.b1.cell
      go_simp
      with_reducible rfl
    rotate_left
    · simp only [Act.put, List.setIfInBounds_toArray, List.set_cons_zero, List.set_cons_succ, i64_w, i32_w]
      rfl
    refine take_ (i := 2) (N := some 36) (v := ?_) (a' := ?_) #[true, true, true, false, false, false] rfl rfl (by kernel_rfl) (fun _ _ _ h => Past9.put 36 (by decide) (by decide) (by decide) h) (Or.inl ⟨by rfl, ?_⟩) hHeld ?_ ?_
    rotate_left
    · intro w' hs
      have s0 := hs.c2
      go_simp
      with_reducible rfl
    rotate_left
    · simp only [Act.put, List.setIfInBounds_toArray, List.set_cons_zero, List.set_cons_succ, i64_w, i32_w]
      rfl
    refine one_ (i := 3) (N := some 37) #[true, true, true, true, false, false] rfl rfl (by kernel_rfl) (by decide) (fun K hK => ?_)
    refine may_ Try.func30 (by kernel_rfl) rfl #[.string ky] (by rfl) rfl rfl (by (try simp only [List.map_toArray, List.map_cons, List.map_nil]); first | done | rfl) ?_
    refine (part_any ky _).mono ?_
    rintro e w' (⟨hky, rfl, hb⟩ | ⟨hky, rfl, rfl⟩)
    rotate_left
    · exact Or.inr ⟨_, rfl, hky, rfl, rfl, rfl, rfl, rfl, hHeld⟩
    refine Or.inl ⟨_, rfl, ?_⟩
    replace hHeld := hHeld.step hb
    clear hb
    refine hK.out _ _ hHeld (fun _ => ?_)
    clear hK K
    refine norm_ (a' := ?_) ?_ ?_
    rotate_left
    · show Act.put _ (some 37) _ = _
      simp only [Act.put, List.setIfInBounds_toArray, List.set_cons_zero, List.set_cons_succ, i64_w, i32_w]
      rfl
    have hz1 : (pt ky).size ≤ 130 := pt_size hky
    have hsz := hsF.out
    have hc6 : (9223372036854775807 < F2.size + (pt ky).size) = False := eq_false (by omega)
    clear hsz
    refine pure_ (i := 4) (N := some 38) (v := ?_) (a' := ?_) #[true, true, true, true, true, false] rfl rfl (by kernel_rfl) (fun _ _ _ h => Past9.put 38 (by decide) (by decide) (by decide) h) (Or.inl ⟨by rfl, ?_⟩) ?_ ?_
    rotate_left
    · intro w'
      go_simp
      with_reducible rfl
    rotate_left
    · simp only [Act.put, List.setIfInBounds_toArray, List.set_cons_zero, List.set_cons_succ, i64_w, i32_w]
      rfl
    refine last_ (i := 5) (N := none) #[true, true, true, true, true, true] rfl rfl (by kernel_rfl) (by decide) (fun K hK => ?_)
    have b1 := hHeld.b1.cell
    have b2 := hHeld.b1.free
    refine skip_ (w1 := ?_) (by rfl) rfl ?_ ?_
    rotate_left
    · go_simp
      rfl
    refine hK.out _ _ ?_
    refine done_ (by kernel_rfl) ?_
    exact ⟨hky, hHeld.store _, _, _, _, _, _, _, _, _, _, _, _, _, _, _, _, _, _, _, _, _, _, _, _, _, _, _, _, _, _, _, _, _, rfl⟩
  case rest9 =>
    rename_i a0
    rintro e a W5 h
    match e, h with
    | .panic c, h =>
      obtain ⟨g0, rfl, g1, g2, g3, g4, hk5⟩ := h
      exact door3_panic 3 hk5 g1 g2 g3 g4 (fun W' hW => ⟨Or.inl ⟨3, Or.inr ⟨hst, hgr, g0, rfl⟩, rfl⟩, hW⟩)
    | .normal, h =>
    obtain ⟨hky, hk5, x0, x8, x9, x10, x11, x12, x13, x14, x15, x16, x17, x18, x19, x20, x21, x22, x23, x24, x25, x26, x27, x28, x29, x30, x31, x32, x33, x34, x35, x36, x37, x38, rfl⟩ := h
    refine a0 _ _ ?_
    clear a0
    unfold door3
    have hb0 := hk5.b1.cell
    have hc3 := hk5.c3
    go_wp2_with fail
    have hpt := pt_size hky
    have hsz := hsF.out
    have hsF3 := Lib.hid (show (F2 ++ pt ky).size ≤ 132 by rw [ByteArray.size_append]; omega)
    have hfine3 := fine_pt (F := F2) (s := ky) (by omega) hky
    try simp only [← ByteArray.size_append]
    clear hb0 hc3 hfine2 hsF hpt hk3 hsz
    clear kb hs1
    replace HF := Lib.hid (show F2 ++ pt ky = strOfNums [st] ++ strOfNums [gr] ++ pt ky by rw [HF.out])
    generalize F2 ++ pt ky = F3 at HF hk5 hfine3 hsF3 ⊢
    try clear W2b
    obtain ⟨n, hn, hnb, hlast⟩ := hfine3
    obtain ⟨hkv, hB, hg⟩ := hk5.conv F3
    have hB1 := hB.cell n (by omega)
    have hB2 := hB.free n (by omega)
    generalize hcl : (F3.data.toList.getD n 0).toNat = cl at hB1 hlast
    rw [hn]
    generalize grownCap W5 (n + 1) 0 5 = cap
    generalize Lib.bytesWorld W5 5 F3 = W3 at hkv hB hB1 hB2 ⊢
    generalize W5.heap.size = g at hB hB1 hB2 hg ⊢
    clear hk5
    try clear W5
    go_loopw [7] (fun v7 wr => v7 = .slice (some ⟨g, 0, none⟩) (n + 1) cap ∧ wr = W3) (fun _ _ => 0)
    case atStart => exact ⟨rfl, rfl⟩
    case round =>
      obtain ⟨rfl, rfl⟩ := hrel
      have h255 : ((cl : Int) == 255) = false := by simp; omega
      go_wp2_with fail
      obtain ⟨hL, hL2⟩ := hB.bump hn hcl hlast
      have hk4 := hkv.far (p := ⟨g, n, none⟩) hg (.int .u8 ((cl : Int) + 1))
      generalize wr.setCell ⟨g, n, none⟩ (.int .u8 ((cl : Int) + 1)) = W4 at hL hk4 ⊢
      clear hB1 hB2 hB hkv
      refine wp_mono (Q := Fin3 w st gr ky sp sb F3 (nx F3)) ?reg ?rest
      case rest =>
        rename_i a0
        rintro e a Wz h
        match e, h with
        | .normal, ⟨g1, g2, g3, g4, hkz⟩ =>
          refine a0 _ _ ?_
          go_wp2_with fail
          exact door3_ret hkz g1 g2 g3 g4 ⟨Or.inr ⟨⟨hst, hgr, hky⟩, by rw [← HF.out]⟩, hkz.below⟩
      case reg =>
        rename_i a0
        clear a0
        have hv1 := hL.drew.text hL2 cap
        have hv2 := (hL.far (q := ⟨w.heap.size + 1, 0, none⟩) (by simp; omega) (.string F3)).drew.text hL2 cap
        have b1 := hk4.b1.cell
        have b2 := hk4.b1.free
        have b3 := hk4.b2.cell
        have b4 := hk4.b2.free
        have b5 := hk4.b3.cell
        have b6 := hk4.b3.free
        have hfin := (((hk4.drew.store F3).store2 (nx F3)).store3 0)
        go_region
        all_goals exact ⟨rfl, rfl, rfl, rfl, hfin⟩
set_option maxHeartbeats 8000000 in
set_option maxRecDepth 100000 in
theorem range_4 (st gr : Int) (ky sp sb : ByteArray) (w : World) :
    Calls Try.prog 21 #[.agg #[.int .i64 st, .int .i64 gr, .string ky, .string sp, .string sb], .int .i64 4] w fun e w' => ((∃ r : Int, (((st < 0 ∨ 64 ≤ st ∨ gr < 0 ∨ 64 ≤ gr) ∧ r = 2) ∨ ((0 ≤ st ∧ st < 64) ∧ (0 ≤ gr ∧ gr < 64) ∧ (64 < ky.size ∨ 64 < sp.size) ∧ r = 3)) ∧ e = .returned (.tuple #[.string ⟨#[]⟩, .string ⟨#[]⟩, .int .i64 r])) ∨
      ((0 ≤ st ∧ st < 64) ∧ (0 ≤ gr ∧ gr < 64) ∧ ky.size ≤ 64 ∧ sp.size ≤ 64) ∧ e = .returned (.tuple #[.string (strOfNums [st] ++ strOfNums [gr] ++ pt ky ++ pt sp), .string (nx (strOfNums [st] ++ strOfNums [gr] ++ pt ky ++ pt sp)), .int .i64 0])) ∧ Below w.heap.size w w' := by
  have hmf : ∀ (fn : Fn) (first cap : Array Value) (w : World), (Instr.makeFunc fn first cap).run Try.prog w = .ok (.func fn first cap) w := fun _ _ _ _ => rfl
  have hs1 := str1
  have kb := fun (F : ByteArray) (W : World) => Lib.run_convert_string_bytes (P := Try.prog) W 9 47 5 F Try.underlying9 Try.underlying47 Try.underlying5
  go_enter_defers Try.func21, Try.ntmps21
  go_wp2_with fail
  have hh := Kept.new w st gr ky sp sb ⟨#[]⟩ ⟨#[]⟩ 0
  generalize (((w.alloc (.cells #[.int .i64 st, .int .i64 gr, .string ky, .string sp, .string sb] 23)).alloc (.cells #[.string ⟨#[]⟩] 9)).alloc (.cells #[.string ⟨#[]⟩] 9)).alloc (.cells #[.int .i64 0] 24) = W at hh ⊢
  refine (within_any _ _ _).mono ?_
  rintro e w1 (⟨hq, rfl, rfl⟩ | ⟨hq, rfl, rfl⟩)
  rotate_left
  · exfalso
    first | (unfold wrap64 at hq; omega) | omega
  clear hq
  have c0 := hh.c0
  go_wp2_with fail
  refine (within_any _ _ _).mono ?_
  rintro e w1 (⟨hst, rfl, rfl⟩ | ⟨hst, rfl, rfl⟩)
  rotate_left
  · exact door3_panic 2 hh rfl rfl rfl rfl (fun W' hW => ⟨Or.inl ⟨2, Or.inl ⟨by omega, rfl⟩, rfl⟩, hW⟩)
  have hk1 := hh.step ((Below.refl _ w1).alloc (Nat.le_refl _) (.cells #[.int .u8 st] 5))
  have hb1 := hk1.b1.cell
  have hf1 := hk1.b1.free
  have hk2 := hk1.store (strOfNums [st])
  have hb2 := hk2.b1.cell
  have c1 := hk2.c1
  go_wp2_with fail
  have hsF : (strOfNums [st]).size = 1 := by rw [strOfNums_size]; rfl
  have hfine := fine_one hst.1 hst.2
  clear hb2 hb1 hf1 hk1 c0 hh hmf
  obtain ⟨F, hF⟩ : ∃ F : ByteArray, F = strOfNums [st] := ⟨_, rfl⟩
  rw [← hF] at hk2 hsF hfine ⊢
  have HF := Lib.hid hF
  clear hF
  generalize hW2 : (w1.alloc (.cells #[.int .u8 st] 5)).setCell ⟨w.heap.size + 1, 0, none⟩ (.string F) = W2 at hk2 ⊢
  clear hW2
  refine (within_any _ _ _).mono ?_
  rintro e w2 (⟨hgr, rfl, rfl⟩ | ⟨hgr, rfl, rfl⟩)
  rotate_left
  · exact door3_panic 2 hk2 rfl rfl rfl rfl (fun W' hW => ⟨Or.inl ⟨2, Or.inl ⟨by omega, rfl⟩, rfl⟩, hW⟩)
  have hk1 := hk2.step ((Below.refl _ w2).alloc (Nat.le_refl _) (.cells #[.int .u8 gr] 5))
  have c1b := hk2.c1
  have hb0 := hk2.b1.cell
  have hb1 := hk1.b1.cell
  have hf1 := hk1.b1.free
  have hz0 : (9223372036854775807 < F.size + (strOfNums [gr]).size) = False := eq_false (by rw [strOfNums_size, hsF]; simp)
  have hk3 := hk1.store (F ++ strOfNums [gr])
  have hb2 := hk3.b1.cell
  have hc2 := hk3.c2
  clear hsF
  go_wp2_with fail
  have hfine2 := fine_two (F := F) (x := gr) (by rw [HF.out, strOfNums_size]; simp) hgr.1 hgr.2
  have hsF := Lib.hid (show (F ++ strOfNums [gr]).size = 2 by rw [ByteArray.size_append, HF.out, strOfNums_size, strOfNums_size]; rfl)
  try simp only [← ByteArray.size_append]
  clear hb2 hb1 hf1 hk1 hb0 hz0 hfine hk2 hc2 c1b
  replace HF := Lib.hid (show F ++ strOfNums [gr] = strOfNums [st] ++ strOfNums [gr] by rw [HF.out])
  generalize F ++ strOfNums [gr] = F2 at HF hk3 hfine2 hsF ⊢
  generalize hW2 : (w2.alloc (.cells #[.int .u8 gr] 5)).setCell ⟨w.heap.size + 1, 0, none⟩ (.string F2) = W2b at hk3 ⊢
  clear hW2
  refine wp_mono (Q := Past9 w 4 st gr ky sp sb F2 (pt ky) ky.size) ?reg9 ?rest9
  case reg9 =>
    rename_i a0
    clear a0
    refine start_ (n := 6) (S := fun W => Kept w W st gr ky sp sb F2 ⟨#[]⟩ 0) (ds := [5]) #[false, false, false, false, false, false] (by kernel_rfl) rfl rfl hk3.drew (fun hHeld => ?_)
    generalize W2b.drew = W0 at hHeld ⊢
    refine pure_ (i := 1) (N := some 35) (v := ?_) (a' := ?_) #[false, true, false, false, false, false] rfl rfl (by kernel_rfl) (fun _ _ _ h => Past9.put 35 (by decide) (by decide) (by decide) h) (Or.inl ⟨by rfl, ?_⟩) ?_ ?_
    rotate_left
    · intro w'
      go_simp
      with_reducible rfl
    rotate_left
    · simp only [Act.put, List.setIfInBounds_toArray, List.set_cons_zero, List.set_cons_succ, i64_w, i32_w]
      rfl
    refine take_ (i := 0) (N := some 34) (v := ?_) (a' := ?_) #[true, true, false, false, false, false] rfl rfl (by kernel_rfl) (fun _ _ _ h => Past9.put 34 (by decide) (by decide) (by decide) h) (Or.inl ⟨by rfl, ?_⟩) hHeld ?_ ?_
    rotate_left
    · intro w' hs
      have s0 := hs.b1.cell
      go_simp
      with_reducible rfl
    rotate_left
    · simp only [Act.put, List.setIfInBounds_toArray, List.set_cons_zero, List.set_cons_succ, i64_w, i32_w]
      rfl
    refine take_ (i := 2) (N := some 36) (v := ?_) (a' := ?_) #[true, true, true, false, false, false] rfl rfl (by kernel_rfl) (fun _ _ _ h => Past9.put 36 (by decide) (by decide) (by decide) h) (Or.inl ⟨by rfl, ?_⟩) hHeld ?_ ?_
    rotate_left
    · intro w' hs
      have s0 := hs.c2
      go_simp
      with_reducible rfl
    rotate_left
    · simp only [Act.put, List.setIfInBounds_toArray, List.set_cons_zero, List.set_cons_succ, i64_w, i32_w]
      rfl
    refine one_ (i := 3) (N := some 37) #[true, true, true, true, false, false] rfl rfl (by kernel_rfl) (by decide) (fun K hK => ?_)
    refine may_ Try.func30 (by kernel_rfl) rfl #[.string ky] (by rfl) rfl rfl (by (try simp only [List.map_toArray, List.map_cons, List.map_nil]); first | done | rfl) ?_
    refine (part_any ky _).mono ?_
    rintro e w' (⟨hky, rfl, hb⟩ | ⟨hky, rfl, rfl⟩)
    rotate_left
    · exact Or.inr ⟨_, rfl, hky, rfl, rfl, rfl, rfl, rfl, hHeld⟩
    refine Or.inl ⟨_, rfl, ?_⟩
    replace hHeld := hHeld.step hb
    clear hb
    refine hK.out _ _ hHeld (fun _ => ?_)
    clear hK K
    refine norm_ (a' := ?_) ?_ ?_
    rotate_left
    · show Act.put _ (some 37) _ = _
      simp only [Act.put, List.setIfInBounds_toArray, List.set_cons_zero, List.set_cons_succ, i64_w, i32_w]
      rfl
    have hz1 : (pt ky).size ≤ 130 := pt_size hky
    have hsz := hsF.out
    have hc6 : (9223372036854775807 < F2.size + (pt ky).size) = False := eq_false (by omega)
    clear hsz
    refine pure_ (i := 4) (N := some 38) (v := ?_) (a' := ?_) #[true, true, true, true, true, false] rfl rfl (by kernel_rfl) (fun _ _ _ h => Past9.put 38 (by decide) (by decide) (by decide) h) (Or.inl ⟨by rfl, ?_⟩) ?_ ?_
    rotate_left
    · intro w'
      go_simp
      with_reducible rfl
    rotate_left
    · simp only [Act.put, List.setIfInBounds_toArray, List.set_cons_zero, List.set_cons_succ, i64_w, i32_w]
      rfl
    refine last_ (i := 5) (N := none) #[true, true, true, true, true, true] rfl rfl (by kernel_rfl) (by decide) (fun K hK => ?_)
    have b1 := hHeld.b1.cell
    have b2 := hHeld.b1.free
    refine skip_ (w1 := ?_) (by rfl) rfl ?_ ?_
    rotate_left
    · go_simp
      rfl
    refine hK.out _ _ ?_
    refine done_ (by kernel_rfl) ?_
    exact ⟨hky, hHeld.store _, _, _, _, _, _, _, _, _, _, _, _, _, _, _, _, _, _, _, _, _, _, _, _, _, _, _, _, _, _, _, _, _, rfl⟩
  case rest9 =>
    rename_i a0
    rintro e a W5 h
    match e, h with
    | .panic c, h =>
      obtain ⟨g0, rfl, g1, g2, g3, g4, hk5⟩ := h
      exact door3_panic 3 hk5 g1 g2 g3 g4 (fun W' hW => ⟨Or.inl ⟨3, Or.inr ⟨hst, hgr, Or.inl g0, rfl⟩, rfl⟩, hW⟩)
    | .normal, h =>
    obtain ⟨hky, hk5, x0, x8, x9, x10, x11, x12, x13, x14, x15, x16, x17, x18, x19, x20, x21, x22, x23, x24, x25, x26, x27, x28, x29, x30, x31, x32, x33, x34, x35, x36, x37, x38, rfl⟩ := h
    refine a0 _ _ ?_
    clear a0
    unfold door3
    have hb0 := hk5.b1.cell
    have hc3 := hk5.c3
    go_wp2_with fail
    have hpt := pt_size hky
    have hsz := hsF.out
    have hsF3 := Lib.hid (show (F2 ++ pt ky).size ≤ 132 by rw [ByteArray.size_append]; omega)
    have hfine3 := fine_pt (F := F2) (s := ky) (by omega) hky
    try simp only [← ByteArray.size_append]
    clear hb0 hc3 hfine2 hsF hpt hk3 hsz
    replace HF := Lib.hid (show F2 ++ pt ky = strOfNums [st] ++ strOfNums [gr] ++ pt ky by rw [HF.out])
    generalize F2 ++ pt ky = F3 at HF hk5 hfine3 hsF3 ⊢
    try clear W2b
    refine wp_mono (Q := Past11 w 4 st gr ky sp sb F3 (pt sp) sp.size) ?reg11 ?rest11
    case reg11 =>
      rename_i a0
      clear a0
      refine start_ (n := 6) (S := fun W => Kept w W st gr ky sp sb F3 ⟨#[]⟩ 0) (ds := [5]) #[false, false, false, false, false, false] (by kernel_rfl) rfl rfl hk5.drew (fun hHeld => ?_)
      generalize W5.drew = W0 at hHeld ⊢
      refine pure_ (i := 1) (N := some 42) (v := ?_) (a' := ?_) #[false, true, false, false, false, false] rfl rfl (by kernel_rfl) (fun _ _ _ h => Past11.put 42 (by decide) (by decide) (by decide) h) (Or.inl ⟨by rfl, ?_⟩) ?_ ?_
      rotate_left
      · intro w'
        go_simp
        with_reducible rfl
      rotate_left
      · simp only [Act.put, List.setIfInBounds_toArray, List.set_cons_zero, List.set_cons_succ, i64_w, i32_w]
        rfl
      refine take_ (i := 0) (N := some 41) (v := ?_) (a' := ?_) #[true, true, false, false, false, false] rfl rfl (by kernel_rfl) (fun _ _ _ h => Past11.put 41 (by decide) (by decide) (by decide) h) (Or.inl ⟨by rfl, ?_⟩) hHeld ?_ ?_
      rotate_left
      · intro w' hs
        have s0 := hs.b1.cell
        go_simp
        with_reducible rfl
      rotate_left
      · simp only [Act.put, List.setIfInBounds_toArray, List.set_cons_zero, List.set_cons_succ, i64_w, i32_w]
        rfl
      refine take_ (i := 2) (N := some 43) (v := ?_) (a' := ?_) #[true, true, true, false, false, false] rfl rfl (by kernel_rfl) (fun _ _ _ h => Past11.put 43 (by decide) (by decide) (by decide) h) (Or.inl ⟨by rfl, ?_⟩) hHeld ?_ ?_
      rotate_left
      · intro w' hs
        have s0 := hs.c3
        go_simp
        with_reducible rfl
      rotate_left
      · simp only [Act.put, List.setIfInBounds_toArray, List.set_cons_zero, List.set_cons_succ, i64_w, i32_w]
        rfl
      refine one_ (i := 3) (N := some 44) #[true, true, true, true, false, false] rfl rfl (by kernel_rfl) (by decide) (fun K hK => ?_)
      refine may_ Try.func30 (by kernel_rfl) rfl #[.string sp] (by rfl) rfl rfl (by (try simp only [List.map_toArray, List.map_cons, List.map_nil]); first | done | rfl) ?_
      refine (part_any sp _).mono ?_
      rintro e w' (⟨hky, rfl, hb⟩ | ⟨hky, rfl, rfl⟩)
      rotate_left
      · exact Or.inr ⟨_, rfl, hky, rfl, rfl, rfl, rfl, rfl, hHeld⟩
      refine Or.inl ⟨_, rfl, ?_⟩
      replace hHeld := hHeld.step hb
      clear hb
      refine hK.out _ _ hHeld (fun _ => ?_)
      clear hK K
      refine norm_ (a' := ?_) ?_ ?_
      rotate_left
      · show Act.put _ (some 44) _ = _
        simp only [Act.put, List.setIfInBounds_toArray, List.set_cons_zero, List.set_cons_succ, i64_w, i32_w]
        rfl
      have hz1 : (pt sp).size ≤ 130 := pt_size hky
      have hsz := hsF3.out
      have hc6 : (9223372036854775807 < F3.size + (pt sp).size) = False := eq_false (by omega)
      clear hsz
      refine pure_ (i := 4) (N := some 45) (v := ?_) (a' := ?_) #[true, true, true, true, true, false] rfl rfl (by kernel_rfl) (fun _ _ _ h => Past11.put 45 (by decide) (by decide) (by decide) h) (Or.inl ⟨by rfl, ?_⟩) ?_ ?_
      rotate_left
      · intro w'
        go_simp
        with_reducible rfl
      rotate_left
      · simp only [Act.put, List.setIfInBounds_toArray, List.set_cons_zero, List.set_cons_succ, i64_w, i32_w]
        rfl
      refine last_ (i := 5) (N := none) #[true, true, true, true, true, true] rfl rfl (by kernel_rfl) (by decide) (fun K hK => ?_)
      have b1 := hHeld.b1.cell
      have b2 := hHeld.b1.free
      refine skip_ (w1 := ?_) (by rfl) rfl ?_ ?_
      rotate_left
      · go_simp
        rfl
      refine hK.out _ _ ?_
      refine done_ (by kernel_rfl) ?_
      exact ⟨hky, hHeld.store _, _, _, _, _, _, _, _, _, _, _, _, _, _, _, _, _, _, _, _, _, _, _, _, _, _, _, _, _, _, _, _, _, _, _, _, _, _, _, _, rfl⟩
    case rest11 =>
      rename_i a0
      rintro e a W6 h
      match e, h with
      | .panic c, h =>
        obtain ⟨g0, rfl, g1, g2, g3, g4, hk6⟩ := h
        exact door3_panic 3 hk6 g1 g2 g3 g4 (fun W' hW => ⟨Or.inl ⟨3, Or.inr ⟨hst, hgr, Or.inr g0, rfl⟩, rfl⟩, hW⟩)
      | .normal, h =>
      obtain ⟨hsp, hk6, x0, x8, x9, x10, x11, x12, x13, x14, x15, x16, x17, x18, x19, x20, x21, x22, x23, x24, x25, x26, x27, x28, x29, x30, x31, x32, x33, x34, x35, x36, x37, x38, x39, x40, x41, x42, x43, x44, x45, rfl⟩ := h
      refine a0 _ _ ?_
      clear a0 hk5
      unfold door3
      have hb0 := hk6.b1.cell
      go_wp2_with fail
      have hpt := pt_size hsp
      have hsz := hsF3.out
      have hfine4 := fine_pt (F := F3) (s := sp) (by omega) hsp
      try simp only [← ByteArray.size_append]
      clear hb0 hfine3 hpt hsF3 hsz kb hs1
      replace HF := Lib.hid (show F3 ++ pt sp = strOfNums [st] ++ strOfNums [gr] ++ pt ky ++ pt sp by rw [HF.out])
      generalize F3 ++ pt sp = F4 at HF hk6 hfine4 ⊢
      try clear W5
      obtain ⟨n, hn, hnb, hlast⟩ := hfine4
      obtain ⟨hkv, hB, hg⟩ := hk6.conv F4
      have hB1 := hB.cell n (by omega)
      have hB2 := hB.free n (by omega)
      generalize hcl : (F4.data.toList.getD n 0).toNat = cl at hB1 hlast
      rw [hn]
      generalize grownCap W6 (n + 1) 0 5 = cap
      generalize Lib.bytesWorld W6 5 F4 = W3 at hkv hB hB1 hB2 ⊢
      generalize W6.heap.size = g at hB hB1 hB2 hg ⊢
      clear hk6
      try clear W6
      go_loopw [7] (fun v7 wr => v7 = .slice (some ⟨g, 0, none⟩) (n + 1) cap ∧ wr = W3) (fun _ _ => 0)
      case atStart => exact ⟨rfl, rfl⟩
      case round =>
        obtain ⟨rfl, rfl⟩ := hrel
        have h255 : ((cl : Int) == 255) = false := by simp; omega
        go_wp2_with fail
        obtain ⟨hL, hL2⟩ := hB.bump hn hcl hlast
        have hk4 := hkv.far (p := ⟨g, n, none⟩) hg (.int .u8 ((cl : Int) + 1))
        generalize wr.setCell ⟨g, n, none⟩ (.int .u8 ((cl : Int) + 1)) = W4 at hL hk4 ⊢
        clear hB1 hB2 hB hkv
        refine wp_mono (Q := Fin3 w st gr ky sp sb F4 (nx F4)) ?reg ?rest
        case rest =>
          rename_i a0
          rintro e a Wz h
          match e, h with
          | .normal, ⟨g1, g2, g3, g4, hkz⟩ =>
            refine a0 _ _ ?_
            go_wp2_with fail
            exact door3_ret hkz g1 g2 g3 g4 ⟨Or.inr ⟨⟨hst, hgr, hky, hsp⟩, by rw [← HF.out]⟩, hkz.below⟩
        case reg =>
          rename_i a0
          clear a0
          have hv1 := hL.drew.text hL2 cap
          have hv2 := (hL.far (q := ⟨w.heap.size + 1, 0, none⟩) (by simp; omega) (.string F4)).drew.text hL2 cap
          have b1 := hk4.b1.cell
          have b2 := hk4.b1.free
          have b3 := hk4.b2.cell
          have b4 := hk4.b2.free
          have b5 := hk4.b3.cell
          have b6 := hk4.b3.free
          have hfin := (((hk4.drew.store F4).store2 (nx F4)).store3 0)
          go_region
          all_goals exact ⟨rfl, rfl, rfl, rfl, hfin⟩
end Go.Proofs.Ytjlpliapofndcaa.Keys
