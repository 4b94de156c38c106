/- Texts of this claim, joined by a program of this session (wip/pack.py): Bloom, BloomH, GBloom, PBloomG. -/
import Derived.LoopTactic
import Derived.Lib.QuoteBits
import Derived.Laws.MakeOwn
import Derived.Deep.OwnRows
import Derived.Test.YtaigmemmgjlhgaaQTableBuild10
import Derived.Test.YtaigmemmgjlhgaaQTableBuild12
import Derived.Test.YtaigmemmgjlhgaaQTableBuild13
-- Bloom
namespace Go.Proofs.Ytaigmemmgjlhgaa.Bloom
open Go.RowKit PLink Txt Bits Aid Lib
def h2_ (key : ByteArray) : Nat := (PCrc.hash 2 (L key)).toNat
theorem h2_lt (key : ByteArray) : h2_ key < 4294967296 := (PCrc.hash 2 (L key)).isLt
def by_ (key : ByteArray) : Nat := h2_ key / 2 * 2 + 1
def at_ (key : ByteArray) (i : Nat) : Nat := ((PCrc.hash 1 (L key)).toNat + i * by_ key) % 4294967296
def place (key : ByteArray) (m i : Nat) : Nat := at_ key i % m
theorem at_zero (key : ByteArray) : at_ key 0 = (PCrc.hash 1 (L key)).toNat := by
 have := (PCrc.hash 1 (L key)).isLt
 unfold at_; omega
theorem at_succ (key : ByteArray) (i : Nat) : ((at_ key i : Int) + (by_ key : Int)) % 4294967296 = (at_ key (i + 1) : Int) := by
 unfold at_
 rw [Nat.succ_mul]
 omega
theorem hash1_any (key : ByteArray) (h : key.size ≤ 9223372036854775807) (w : World) :
  Calls Try.prog 77 #[.int .u32 1, .string key] w fun e w' => e = .returned (.int .u32 (at_ key 0 : Int)) ∧ Below w.heap.size w w' := by
 rw [at_zero]
 exact Sum.hash_any 1#32 key h w
theorem hash2_any (key : ByteArray) (h : key.size ≤ 9223372036854775807) (w : World) :
  Calls Try.prog 77 #[.int .u32 2, .string key] w fun e w' => e = .returned (.int .u32 (h2_ key : Int)) ∧ Below w.heap.size w w' :=
 Sum.hash_any 2#32 key h w
theorem or_by (key : ByteArray) : bits .or .u32 (h2_ key : Int) 1 = (by_ key : Int) := by
 have := h2_lt key
 rw [show (1 : Int) = ((1 : Nat) : Int) from rfl, u32_or_nat _ _ (by omega) (by omega), or_one_nat]
 rfl
theorem all_succ (ok : Nat → Bool) (k : Nat) : (List.range (k + 1)).all ok = ((List.range k).all ok && ok k) := by simp [List.range_succ]
theorem all_false {ok : Nat → Bool} {k i : Nat} (hi : i < k) (h : ok i = false) : (List.range k).all ok = false := by
 rw [List.all_eq_false]
 exact ⟨i, List.mem_range.2 hi, by simp [h]⟩
theorem each_any (fn : Nat) (hE : ∀ args w, (callFunc fn args).run Try.prog w = .ok (.enter fn args) w) (b : Nat) (ok : Nat → Bool) (J : Nat → World → Prop) (key : ByteArray) (hkey : key.size ≤ 9223372036854775807)
  (k m : Nat) (hk : k ≤ 1000000) (hm : 0 < m) (hm2 : m ≤ 4294967295)
  (hstep : ∀ i w, i < k → J i w → Calls Try.prog fn #[.int .u32 (place key m i : Int), .pointer (some ⟨b, 0, none⟩)] w fun e w' => e = .returned (.bool (ok i)) ∧ J (i + 1) w')
  (w : World) (hJ : ∀ w1, Below w.heap.size w w1 → J 0 w1) :
  Calls Try.prog 52 #[.string key, .int .i64 k, .int .u32 m, .func (.func fn) #[] #[.pointer (some ⟨b, 0, none⟩)]] w fun e w' => ∃ j, j ≤ k ∧ J j w' ∧ e = .returned (.bool ((List.range k).all ok)) ∧ ((List.range k).all ok = true → j = k) := by
 have H1 := Lib.hid (hash1_any key hkey)
 have H2 := Lib.hid (hash2_any key hkey)
 have HS := Lib.hid hstep
 clear hstep
 have o1 := or_by key
 go_enter Try.func52, Try.ntmps52
 go_wp2_with fail
 refine (H1.out _).mono ?_
 rintro e w1 ⟨rfl, hb1⟩
 go_wp2_with fail
 refine (H2.out _).mono ?_
 rintro e w2 ⟨rfl, hb2⟩
 have hJ2 := hJ w2 (hb1.trans (hb2.mono hb1.size))
 go_wp2_with fail
 have hm0 : ((m : Int) == 0) = false := by simp; omega
 go_loopw [9, 17] (fun v9 v17 wr => ∃ i : Nat, i ≤ k ∧ v9 = .int .u32 (at_ key i : Int) ∧ v17 = .int .i64 i ∧ J i wr ∧ (List.range i).all ok = true) (fun _ v17 _ => k - (intOf v17).toNat)
 case atStart => exact ⟨0, by omega, rfl, rfl, hJ2, rfl⟩
 case round =>
  obtain ⟨i, hi, rfl, rfl, hJi, hok⟩ := hrel
  by_cases hlt : i < k
  ·have t1 : ((i : Int) < (k : Int)) = True := eq_true (by omega)
   have p1 : (at_ key i : Int) % (m : Int) = (place key m i : Int) := by unfold place; push_cast; rfl
   have p2 : (at_ key i : Int).tmod (m : Int) = (place key m i : Int) := by rw [Int.tmod_eq_emod_of_nonneg (by omega)]; exact p1
   have a1 := at_succ key i
   go_wp2_with fail
   refine (HS.out i _ hlt hJi).mono ?_
   rintro e w3 ⟨rfl, hJ3⟩
   cases ho : ok i with
   | true =>
    go_wp2_with fail
    go_roundw
    case rel => exact ⟨i + 1, by omega, by rw [a1], by go_num, hJ3, by rw [all_succ, hok, ho]; rfl⟩
    case measure => simp [intOf]; omega
   | false =>
    go_wp2_with fail
    go_ret
    have hf := all_false hlt ho
    exact ⟨i + 1, by omega, hJ3, by rw [hf]; rfl, fun h => by rw [hf] at h; cases h⟩
  ·have t1 : ((i : Int) < (k : Int)) = False := eq_false (by omega)
   obtain rfl : i = k := by omega
   go_wp2_with fail
   go_ret
   exact ⟨i, Nat.le_refl _, hJi, by rw [hok]; rfl, fun _ => rfl⟩
theorem asked8 (c : UInt8) (s : Nat) : (bits .and .u8 ((c.toNat : Int) / 2 ^ s) 1 == 1) = c.toNat.testBit s := by
 have e : ((c.toNat : Int) / 2 ^ s) = ((c.toNat / 2 ^ s : Nat) : Int) := by push_cast; rfl
 have h1 := c.toNat_lt
 have h2 : c.toNat / 2 ^ s ≤ c.toNat := Nat.div_le_self _ _
 rw [e, show (1 : Int) = ((1 : Nat) : Int) from rfl, u8_and_nat _ _ (by omega) (by omega), Nat.and_one_is_mod, Nat.testBit_eq_decide_div_mod_eq]
 rw [Bool.eq_iff_iff, beq_iff_eq, decide_eq_true_eq]
 omega
theorem marked (c : UInt8) (s : Nat) (hs : s < 8) : bits .or .u8 (c.toNat : Int) (2 ^ s % 256) = ((c ||| UInt8.ofNat (2 ^ s)).toNat : Int) := by
 have e1 : (2 : Int) ^ s % 256 = ((UInt8.ofNat (2 ^ s)).toNat : Int) := by
  match s, hs with
  | 0, _ | 1, _ | 2, _ | 3, _ | 4, _ | 5, _ | 6, _ | 7, _ => rfl
 rw [e1, u8_or_nat _ _ c.toNat_lt (UInt8.ofNat (2 ^ s)).toNat_lt]
 simp
theorem has1 (F : ByteArray) (bit b : Nat) (hbit : bit / 8 < F.size) (hb2 : bit ≤ 4294967295) (w : World) (hc : w.cell? ⟨b, 0, none⟩ = some (.string F)) :
  Calls Try.prog 53 #[.int .u32 bit, .pointer (some ⟨b, 0, none⟩)] w fun e w' => e = .returned (.bool (PBloom.bitOf (L F) bit)) ∧ Below w.heap.size w w' := by
 go_enter Try.func53, Try.ntmps53
 go_wp2_with fail
 go_ret
 refine ⟨?_, Below.refl _ _⟩
 show Ending.returned (Value.bool _) = _
 rw [asked8]
 unfold PBloom.bitOf
 congr 3
 rw [List.getD_eq_getElem?_getD, List.getElem?_eq_getElem (by rw [q0g]; exact hbit)]
 rfl
theorem mark1 (W : World) (g b c : Nat) (x : UInt8) (l : List UInt8) (bit : Nat) (hB : Bts W g (x :: l)) (hbit : bit / 8 < l.length) (hb2 : bit ≤ 4294967295) (hc : W.cell? ⟨b, 0, none⟩ = some (.slice (some ⟨g, 1, none⟩) l.length c)) (hne : b ≠ g) :
  Calls Try.prog 79 #[.int .u32 bit, .pointer (some ⟨b, 0, none⟩)] W fun e w' => e = .returned (.bool true) ∧ Bts w' g (x :: PBloom.setBit l bit) ∧ w'.cell? ⟨b, 0, none⟩ = some (.slice (some ⟨g, 1, none⟩) l.length c) ∧ ∀ n w0, n ≤ g → Below n w0 W → Below n w0 w' := by
 have hl1 : 1 + bit / 8 < (x :: l).length := by simp; omega
 have gc := hB.cell (1 + bit / 8) hl1
 have gf := hB.free (1 + bit / 8) hl1
 have gx : (x :: l).getD (1 + bit / 8) 0 = l.getD (bit / 8) 0 := by rw [Nat.add_comm]; rfl
 rw [gx] at gc
 have mk := marked (l.getD (bit / 8) 0) (bit % 8) (by omega)
 go_enter Try.func79, Try.ntmps79
 go_wp2_with fail
 go_ret
 have hb := hB.put (1 + bit / 8) hl1 (l.getD (bit / 8) 0 ||| UInt8.ofNat (2 ^ (bit % 8)))
 have hs : (x :: l).set (1 + bit / 8) (l.getD (bit / 8) 0 ||| UInt8.ofNat (2 ^ (bit % 8))) = x :: PBloom.setBit l bit := by rw [Nat.add_comm]; rfl
 have ge : l.getD (bit / 8) 0 = l[bit / 8] := by rw [List.getD_eq_getElem?_getD, List.getElem?_eq_getElem hbit]; rfl
 rw [hs] at hb
 rw [ge] at hb mk
 rw [← mk] at hb
 exact ⟨rfl, hb, (World.cell?_setCell_other _ _ _ _ (fun e => hne (by injection e with e _; exact e.symm))).trans hc, fun n w0 hn h => h.setCell (p := ⟨g, 1 + bit / 8, none⟩) hn _⟩
theorem strs_get {w : World} {A : Option Addr} {n : Nat} {l : List ByteArray} (h : Go.Proofs.YtaigmemmgjlhgaaW.PrintWords.Kd.C Go.Proofs.YtaigmemmgjlhgaaW.PrintWords.Kd.string w A n l) (i : Nat) (hi : i < l.length) :
  ∃ ad, A = some ad ∧ w.cell? (ad.add i) = some (.string (l.getD i ByteArray.empty)) := by
 obtain ⟨ad, c, rfl, _, hR, hc⟩ := Go.Proofs.YtaigmemmgjlhgaaW.PrintWords.ReadsRow.get_ h ByteArray.empty (i : Int) (by omega) (by have := h.1; omega)
 have e : c = [.string (l.getD i ByteArray.empty)] := hR
 subst e
 have := hc 0 _ rfl
 simp only [Int.toNat_natCast] at this
 have hz : Go.Proofs.YtaigmemmgjlhgaaW.PrintWords.Kd.string.sz = 1 := rfl
 rw [hz, Nat.mul_one, Nat.add_zero] at this
 exact ⟨ad, rfl, this⟩
theorem bts_below {W W1 : World} {g : Nat} {l : List UInt8} (h : Bts W g l) (hl : 0 < l.length) (hb : Below W.heap.size W W1) : Bts W1 g l := by
 have hg : g < W.heap.size := World.block_lt_of_cell? W ⟨g, 0, none⟩ (h.cell 0 hl)
 exact ⟨fun j hj => (hb.cell (p := ⟨g, j, none⟩) hg).trans (h.cell j hj), fun j hj => (hb.frozen (p := ⟨g, j, none⟩) hg).trans (h.free j hj)⟩
def q1q (m k : Nat) (l0 : List ByteArray) : List Nat := l0.flatMap fun key => (List.range k).map (place key m)
theorem bits_snoc (m k : Nat) (l0 : List ByteArray) (i : Nat) (hi : i < l0.length) : q1q m k (l0.take (i + 1)) = q1q m k (l0.take i) ++ (List.range k).map (place (l0.getD i ByteArray.empty) m) := by
 rw [List.take_succ_eq_append_getElem hi, List.getD_eq_getElem?_getD, List.getElem?_eq_getElem hi]
 unfold q1q
 rw [List.flatMap_append]
 simp
theorem range_snoc (f : Nat → Nat) (j : Nat) : (List.range (j + 1)).map f = (List.range j).map f ++ [f j] := by simp [List.range_succ]
theorem setAll_snoc (l : List UInt8) (a : List Nat) (i : Nat) : PBloom.setAll l (a ++ [i]) = PBloom.setBit (PBloom.setAll l a) i := by rw [PBloom.setAll_append]; rfl
theorem each_marks (n0 : Nat) (w0 : World) (key : ByteArray) (hkey : key.size ≤ 9223372036854775807) (w : World) (hb0 : Below n0 w0 w) (g : Nat) (hg : n0 ≤ g) (x : UInt8) (l : List UInt8) (c b : Nat)
  (hB : Bts w g (x :: l)) (hl : 0 < l.length) (hl2 : l.length ≤ 300000) (k : Nat) (hk : k ≤ 1000) (hbx : w.cell? ⟨b, 0, none⟩ = some (.slice (some ⟨g, 1, none⟩) l.length c)) (hne : b ≠ g) :
  Calls Try.prog 52 #[.string key, .int .i64 k, .int .u32 ((l.length : Int) * 8), .func (.func 79) #[] #[.pointer (some ⟨b, 0, none⟩)]] w fun e w' =>
   e = .returned (.bool true) ∧ Bts w' g (x :: PBloom.setAll l ((List.range k).map (place key (8 * l.length)))) ∧ w'.cell? ⟨b, 0, none⟩ = some (.slice (some ⟨g, 1, none⟩) l.length c) ∧ Below n0 w0 w' := by
 have hbb : b < w.heap.size := World.block_lt_of_cell? w ⟨b, 0, none⟩ hbx
 have hn : n0 ≤ w.heap.size := by
  have := World.block_lt_of_cell? w ⟨g, 0, none⟩ (hB.cell 0 (by simp))
  show n0 ≤ _
  have h2 : g < w.heap.size := this
  omega
 have e1 : ((l.length : Int) * 8) = ((8 * l.length : Nat) : Int) := by omega
 rw [e1]
 refine (each_any 79 (enters Try.func79 (by kernel_rfl) rfl) b (fun _ => true)
  (fun j W => Bts W g (x :: PBloom.setAll l ((List.range j).map (place key (8 * l.length)))) ∧ W.cell? ⟨b, 0, none⟩ = some (.slice (some ⟨g, 1, none⟩) l.length c) ∧ Below n0 w0 W)
  key hkey k (8 * l.length) (by omega) (by omega) (by omega) ?_ w ?_).mono ?_
 ·rintro i W hi ⟨hB1, hc1, hb1⟩
  have hlen := PBloom.setAll_length l ((List.range i).map (place key (8 * l.length)))
  have hpl : place key (8 * l.length) i < 8 * l.length := Nat.mod_lt _ (by omega)
  rw [← hlen] at hc1
  refine (mark1 W g b c x _ (place key (8 * l.length) i) hB1 (by rw [hlen]; omega) (by omega) hc1 hne).mono ?_
  rintro e w' ⟨rfl, h1, h2, h3⟩
  rw [hlen] at h2
  refine ⟨rfl, ?_, h2, h3 n0 w0 hg hb1⟩
  rw [range_snoc, setAll_snoc]
  exact h1
 ·intro w1 hb1
  exact ⟨bts_below hB (by simp) hb1, (hb1.cell (p := ⟨b, 0, none⟩) hbb).trans hbx, hb0.trans (hb1.mono hn)⟩
 ·rintro e w' ⟨j, hj, ⟨h1, h2, h3⟩, rfl, h5⟩
  have ha : (List.range k).all (fun _ => true) = true := by simp
  obtain rfl := h5 ha
  rw [ha]
  exact ⟨rfl, h1, h2, h3⟩
theorem mark_any (n0 : Nat) (w0 : World) (hn0 : n0 = w0.heap.size) (A0 : Option Addr) (c0 : Nat) (l0 : List ByteArray) (hr : Go.Proofs.YtaigmemmgjlhgaaW.PrintWords.Kd.C Go.Proofs.YtaigmemmgjlhgaaW.PrintWords.Kd.string w0 A0 l0.length l0) (hsz : ∀ s ∈ l0, s.size ≤ 9223372036854775807) (hlen : l0.length ≤ 1000000)
  (w : World) (hb0 : Below n0 w0 w) (g : Nat) (hg : n0 ≤ g) (x : UInt8) (l : List UInt8) (c : Nat) (hB : Bts w g (x :: l)) (hl : 0 < l.length) (hl2 : l.length ≤ 300000) (k : Nat) (hk : k ≤ 1000) :
  Calls Try.prog 58 #[.slice (some ⟨g, 1, none⟩) l.length c, .int .i64 k, .slice A0 l0.length c0] w fun e w' => e = .returned (.tuple #[]) ∧ Bts w' g (x :: PBloom.setAll l (q1q (8 * l.length) k l0)) ∧ Below n0 w0 w' := by
 have c1 : ((l.length : Int) % 4294967296) = (l.length : Int) := by omega
 have c2 : ((l.length : Int) * 8) % 4294967296 = ((8 * l.length : Nat) : Int) := by omega
 go_enter Try.func58, Try.ntmps58
 have hmf : ∀ (fn : Fn) (first cap : Array Value) (w : World), (Instr.makeFunc fn first cap).run Try.prog w = .ok (.func fn first cap) w := fun _ _ _ _ => rfl
 have hgs : g < w.heap.size := World.block_lt_of_cell? w ⟨g, 0, none⟩ (hB.cell 0 (by simp))
 have b0 := Box.new w (.slice (some ⟨g, 1, none⟩) l.length c) 55
 have hB1 := bts_below hB (by simp) ((Below.refl w.heap.size w).alloc (Nat.le_refl _) (.cells #[.slice (some ⟨g, 1, none⟩) l.length c] 55))
 have hb1 := hb0.alloc (by omega) (.cells #[.slice (some ⟨g, 1, none⟩) l.length c] 55)
 go_wp2_with fail
 generalize w.alloc (.cells #[.slice (some ⟨g, 1, none⟩) l.length c] 55) = w1 at b0 hB1 hb1 ⊢
 have hne : w.heap.size ≠ g := by omega
 generalize w.heap.size = b at b0 hne ⊢
 go_loopw [15] (fun v15 wr => ∃ i : Nat, i ≤ l0.length ∧ v15 = .int .i64 i ∧ Bts wr g (x :: PBloom.setAll l (q1q (8 * l.length) k (l0.take i))) ∧ wr.cell? ⟨b, 0, none⟩ = some (.slice (some ⟨g, 1, none⟩) l.length c) ∧ Below n0 w0 wr) (fun v15 _ => l0.length - (intOf v15).toNat)
 case atStart => exact ⟨0, by omega, rfl, hB1, b0.cell, hb1⟩
 case round =>
  obtain ⟨i, hi, rfl, hBr, hcr, hbr⟩ := hrel
  by_cases hlt : i < l0.length
  ·have t1 : ((i : Int) < (l0.length : Int)) = True := eq_true (by omega)
   obtain ⟨ad, rfl, hcell⟩ := strs_get (Go.Proofs.YtaigmemmgjlhgaaW.PrintWords.Kd.C_below hr (hn0 ▸ hbr)) i hlt
   go_wp2_with fail
   have hk1 := hsz l0[i] (List.getElem_mem _)
   have hlen2 := PBloom.setAll_length l (q1q (8 * l.length) k (l0.take i))
   have hm := each_marks n0 w0 l0[i] hk1 wr hbr g hg x _ c b hBr (by rw [hlen2]; exact hl) (by rw [hlen2]; exact hl2) k hk (by rw [hlen2]; exact hcr) hne
   rw [hlen2] at hm
   have hge : l0.getD i ByteArray.empty = l0[i] := by rw [List.getD_eq_getElem?_getD, List.getElem?_eq_getElem hlt]; rfl
   have hsn := bits_snoc (8 * l.length) k l0 i hlt
   rw [hge] at hsn
   have HSN := Lib.hid hsn
   clear hsn hge hcell
   refine hm.mono ?_
   rintro e w2 ⟨rfl, h1, h2, h3⟩
   go_wp2_with fail
   go_roundw
   case rel => exact ⟨i + 1, by omega, by go_num, by rw [HSN.out, PBloom.setAll_append]; exact h1, h2, h3⟩
   case measure => simp [intOf]; omega
  ·have t1 : ((i : Int) < (l0.length : Int)) = False := eq_false (by omega)
   obtain rfl : i = l0.length := by omega
   rw [List.take_length] at hBr
   go_wp2_with fail
   go_end0
   exact ⟨rfl, hBr, hbr⟩
def probes (q : Nat) : Nat := max (q * 7 / 10) 1
def width (n q : Nat) : Nat := max ((n * q + 7) / 8) 8
def filter (q : Nat) (l0 : List ByteArray) : List UInt8 := UInt8.ofNat (probes q) :: PBloom.setAll (PBloom.zeros (width l0.length q)) (q1q (8 * width l0.length q) (probes q) l0)
theorem infoU8 : (Try.prog.info? 5).map (fun i => (i.zero, i.size, i.bytes)) = some (some (.int .u8 0), 1, 1) := by kernel_rfl
theorem make_u8 (n : Nat) (hn : n ≤ 281474976710656) (W : World) : (Instr.makeSlice 55 (.int .i64 (n : Int)) (.int .i64 (n : Int))).run Try.prog W = .ok (.slice (some ⟨W.heap.size, 0, none⟩) n n) (W.alloc (.cells (madeCells #[.int .u8 0] n) 5)) := by
 obtain ⟨i0, hi, hz0, hz1, hz2⟩ := info_parts infoU8
 have h := run_make (P := Try.prog) W 55 5 i0 _ Try.underlying55 hi hz0 .i64 .i64 (n : Int) (n : Int) (by omega) (Int.le_refl _) (by rw [hz2]; omega) (by omega)
 have e : (Value.int IntKind.u8 0).cells = #[Value.int IntKind.u8 0] := rfl
 rw [hz1, e] at h
 simpa using h
theorem bts_made (W : World) (n : Nat) : Bts (W.alloc (.cells (madeCells #[.int .u8 0] n) 5)) W.heap.size (PBloom.zeros n) := by
 have h := World.rowIs_made W (.int .u8 0) n 5
 have hl : (PBloom.zeros n).length = n := by simp [PBloom.zeros]
 refine ⟨fun j hj => ?_, fun j _ => h.frozen j⟩
 rw [hl] at hj
 rw [h.cell hj]
 simp [PBloom.zeros, hj]
theorem made_get (z : Value) (n i : Nat) (h : i < n) : (madeCells #[z] n)[i]? = some z := by
 simp [madeCells, h, Nat.mod_one]
theorem bts_first (W : World) (n kk : Nat) (hk : kk < 256) : Bts (W.alloc (.cells ((madeCells #[.int .u8 0] (1 + n)).setIfInBounds 0 (.int .u8 (kk : Int))) 5)) W.heap.size (UInt8.ofNat kk :: PBloom.zeros n) := by
 have hs : ((madeCells #[.int .u8 0] (1 + n)).setIfInBounds 0 (.int .u8 (kk : Int))).size = 1 + n := by simp [size_madeCells]
 have hl : (UInt8.ofNat kk :: PBloom.zeros n).length = 1 + n := by simp [PBloom.zeros]; omega
 have h := World.rowIs_alloc W ((madeCells #[.int .u8 0] (1 + n)).setIfInBounds 0 (.int .u8 (kk : Int))) 5 (fun i => .int .u8 (((UInt8.ofNat kk :: PBloom.zeros n).getD i 0).toNat : Int)) (fun i hi => by
  rw [hs] at hi
  rw [Array.getElem?_setIfInBounds]
  by_cases e : i = 0
  ·subst e
   have : (UInt8.ofNat kk).toNat = kk := by simp; omega
   simp [size_madeCells, this]
  ·obtain ⟨j, rfl⟩ : ∃ j, i = j + 1 := ⟨i - 1, by omega⟩
   rw [if_neg (by omega), made_get _ _ _ hi]
   have : ((UInt8.ofNat kk :: PBloom.zeros n).getD (j + 1) 0) = 0 := by
    simp only [PBloom.zeros, List.getD_eq_getElem?_getD, List.getElem?_cons_succ, List.getElem?_replicate]
    split <;> rfl
   simp only [this]
   rfl)
 refine ⟨fun j hj => ?_, fun j _ => h.frozen j⟩
 rw [hl] at hj
 exact h.cell (by rw [hs]; exact hj)
theorem make_any (A0 : Option Addr) (c0 : Nat) (l0 : List ByteArray) (w : World) (hr : Go.Proofs.YtaigmemmgjlhgaaW.PrintWords.Kd.C Go.Proofs.YtaigmemmgjlhgaaW.PrintWords.Kd.string w A0 l0.length l0) (hsz : ∀ s ∈ l0, s.size ≤ 9223372036854775807) (hlen : l0.length ≤ 65536) (q : Nat) (hq1 : 1 ≤ q) (hq2 : q ≤ 32) :
  Calls Try.prog 37 #[.slice A0 l0.length c0, .int .i64 q] w fun e w' => e = .returned (.tuple #[.string (B (filter q l0)), .int .i64 0]) ∧ Below w.heap.size w w' := by
 have d1 : ((q : Int) < 1) = False := eq_false (by omega)
 have d2 : ((q : Int) > 32) = False := eq_false (by omega)
 have d3 : ((l0.length : Int) > 65536) = False := eq_false (by omega)
 have hP : l0.length * q ≤ 2097152 := Nat.le_trans (Nat.mul_le_mul hlen hq2) (by omega)
 have hP2 : (l0.length : Int) * (q : Int) = ((l0.length * q : Nat) : Int) := by push_cast; rfl
 obtain ⟨P, hPe⟩ : ∃ P : Nat, P = l0.length * q := ⟨_, rfl⟩
 rw [← hPe] at hP hP2
 have n1 : wrap64 ((l0.length : Int) * (q : Int)) = (P : Int) := by rw [hP2]; unfold wrap64; omega
 obtain ⟨kk, hkk⟩ : ∃ kk : Nat, kk = probes q := ⟨_, rfl⟩
 obtain ⟨mm, hmm⟩ : ∃ mm : Nat, mm = width l0.length q := ⟨_, rfl⟩
 have hkb : 1 ≤ kk ∧ kk ≤ 22 := by rw [hkk]; unfold probes; omega
 have hmb : 8 ≤ mm ∧ mm ≤ 262144 := by rw [hmm]; unfold width; rw [← hPe]; omega
 have m1 : (if (q : Int) * 7 / 10 < 1 then (1 : Int) else (q : Int) * 7 / 10) = (kk : Int) := by rw [hkk]; unfold probes; split <;> omega
 have m2 : (if ((P : Int) + 7) / 8 < 8 then (8 : Int) else ((P : Int) + 7) / 8) = (mm : Int) := by rw [hmm]; unfold width; rw [← hPe]; split <;> omega
 have hmk : (Instr.makeSlice 55 (.int .i64 (1 + (mm : Int))) (.int .i64 (1 + (mm : Int)))).run Try.prog w = .ok (.slice (some ⟨w.heap.size, 0, none⟩) (1 + mm) (1 + mm)) (w.alloc (.cells (madeCells #[.int .u8 0] (1 + mm)) 5)) := by
  have h := make_u8 (1 + mm) (by omega) w
  rw [show (((1 + mm : Nat)) : Int) = 1 + (mm : Int) by omega] at h
  exact h
 have hB0 := bts_made w (1 + mm)
 have z0 : PBloom.zeros (1 + mm) = 0 :: PBloom.zeros mm := by rw [Nat.add_comm]; rfl
 rw [z0] at hB0
 have gc := hB0.cell 0 (by simp)
 have gf := hB0.free 0 (by simp)
 have k8 : (kk : Int) % 256 = (kk : Int) := by omega
 have HK := Lib.hid hkk
 have HM := Lib.hid hmm
 clear hPe hP2 hkk hmm
 go_enter Try.func37, Try.ntmps37
 go_wp2_with fail
 have hB1 := bts_first w mm kk (by omega)
 have hb1 := (Below.refl w.heap.size w).alloc (Nat.le_refl _) (.cells ((madeCells #[.int .u8 0] (1 + mm)).setIfInBounds 0 (.int .u8 (kk : Int))) 5)
 generalize w.alloc (.cells ((madeCells #[.int .u8 0] (1 + mm)).setIfInBounds 0 (.int .u8 (kk : Int))) 5) = w1 at hB1 hb1 ⊢
 have hzl : (PBloom.zeros mm).length = mm := by simp [PBloom.zeros]
 have hm := mark_any w.heap.size w rfl A0 c0 l0 hr hsz (by omega) w1 hb1 w.heap.size (Nat.le_refl _) (UInt8.ofNat kk) (PBloom.zeros mm) mm hB1 (by rw [hzl]; omega) (by rw [hzl]; omega) kk (by omega)
 rw [hzl] at hm
 clear hB0 gc gf hmk
 refine hm.mono ?_
 rintro e w2 ⟨rfl, h1, h2⟩
 have kt := h1.text (n := 1 + mm) (by simp [PBloom.setAll_length, hzl]; omega) (1 + mm)
 clear m1 m2 n1
 go_wp2_with fail
 go_ret2
 refine ⟨?_, h2⟩
 rw [HK.out, HM.out]
 rfl
end Go.Proofs.Ytaigmemmgjlhgaa.Bloom
-- BloomH
namespace Go.Proofs.Ytaigmemmgjlhgaa.Bloom
open Go.RowKit PLink Txt Bits Aid Lib
theorem make_bad (A0 : Option Addr) (c0 n : Nat) (bits : Int) (h : bits < 1 ∨ 32 < bits) (w : World) :
  Calls Try.prog 37 #[.slice A0 n c0, .int .i64 bits] w fun e w' => e = .returned (.tuple #[.string ⟨#[]⟩, .int .i64 2]) ∧ Below w.heap.size w w' := by
 rcases h with h | h
 ·go_enter Try.func37, Try.ntmps37
  go_wp2_with fail
  go_ret2
  exact ⟨rfl, Below.refl _ _⟩
 ·have h2 : ¬ bits < 1 := by omega
  go_enter Try.func37, Try.ntmps37
  go_wp2_with fail
  go_ret2
  exact ⟨rfl, Below.refl _ _⟩
def fine (F : ByteArray) : Prop := 9 ≤ F.size ∧ F.size ≤ 262145 ∧ 1 ≤ ((L F).getD 0 0).toNat ∧ ((L F).getD 0 0).toNat ≤ 22
instance (F : ByteArray) : Decidable (fine F) := inferInstanceAs (Decidable (_ ∧ _))
def chk (F : ByteArray) : Nat := if fine F then 0 else 7
theorem check_any (F : ByteArray) (w : World) : Calls Try.prog 43 #[.string F] w fun e w' => e = .returned (.int .i64 (chk F : Int)) ∧ Below w.heap.size w w' := by
 by_cases h1 : F.size < 9
 ·have hv : chk F = 7 := by unfold chk; rw [if_neg (fun h => by unfold fine at h; omega)]
  rw [hv]
  go_enter Try.func43, Try.ntmps43
  go_wp2_with fail
  go_ret
  exact ⟨rfl, Below.refl _ _⟩
 ·by_cases h2 : 262145 < F.size
  ·have hv : chk F = 7 := by unfold chk; rw [if_neg (fun h => by unfold fine at h; omega)]
   rw [hv]
   have g1 : ¬ (F.size : Int) < 9 := by omega
   have g2 : (F.size : Int) > 262145 := by omega
   go_enter Try.func43, Try.ntmps43
   go_wp2_with fail
   go_ret
   exact ⟨rfl, Below.refl _ _⟩
  ·have g0 : 0 < F.size := by omega
   have hx : (F[0]'g0) = (L F).getD 0 0 := by rw [List.getD_eq_getElem?_getD, List.getElem?_eq_getElem (by rw [q0g]; omega)]; rfl
   have hv : chk F = if 1 ≤ (F[0]'g0).toNat ∧ (F[0]'g0).toNat ≤ 22 then 0 else 7 := by
    rw [hx]
    unfold chk
    by_cases c : 1 ≤ ((L F).getD 0 0).toNat ∧ ((L F).getD 0 0).toNat ≤ 22
    ·rw [if_pos ⟨by omega, by omega, c.1, c.2⟩, if_pos c]
    ·rw [if_neg (fun h => c ⟨h.2.2.1, h.2.2.2⟩), if_neg c]
   rw [hv]
   clear hv hx
   have g1 : ¬ (F.size : Int) < 9 := by omega
   have g2 : ¬ (F.size : Int) > 262145 := by omega
   by_cases c1 : ((F[0]'g0).toNat : Int) < 1
   ·rw [if_neg (by omega)]
    go_enter Try.func43, Try.ntmps43
    go_wp2_with fail
    go_ret
    exact ⟨rfl, Below.refl _ _⟩
   ·by_cases c2 : ((F[0]'g0).toNat : Int) > 22
    ·rw [if_neg (by omega)]
     go_enter Try.func43, Try.ntmps43
     go_wp2_with fail
     go_ret
     exact ⟨rfl, Below.refl _ _⟩
    ·rw [if_pos (by omega)]
     go_enter Try.func43, Try.ntmps43
     go_wp2_with fail
     go_ret
     exact ⟨rfl, Below.refl _ _⟩
def has (F key : ByteArray) : Bool := if fine F then (List.range ((L F).getD 0 0).toNat).all (fun i => PBloom.bitOf ((L F).drop 1) (place key (8 * (F.size - 1)) i)) else true
theorem has_each (key : ByteArray) (hkey : key.size ≤ 9223372036854775807) (G : ByteArray) (h8 : 8 ≤ G.size) (h9 : G.size ≤ 262144) (k : Nat) (hk : k ≤ 255) (b n0 : Nat) (w0 : World) (hbn : n0 ≤ b) (W : World) (hb : Below n0 w0 W) (hc : W.cell? ⟨b, 0, none⟩ = some (.string G)) :
  Calls Try.prog 52 #[.string key, .int .i64 k, .int .u32 ((G.size : Int) * 8), .func (.func 53) #[] #[.pointer (some ⟨b, 0, none⟩)]] W fun e w' =>
   e = .returned (.bool ((List.range k).all fun i => PBloom.bitOf (L G) (place key (8 * G.size) i))) ∧ Below n0 w0 w' := by
 have hbb : b < W.heap.size := World.block_lt_of_cell? W ⟨b, 0, none⟩ hc
 have e1 : ((G.size : Int) * 8) = ((8 * G.size : Nat) : Int) := by omega
 rw [e1]
 refine (each_any 53 (enters Try.func53 (by kernel_rfl) rfl) b (fun i => PBloom.bitOf (L G) (place key (8 * G.size) i))
  (fun _ W => Below n0 w0 W ∧ W.cell? ⟨b, 0, none⟩ = some (.string G)) key hkey k (8 * G.size) (by omega) (by omega) (by omega) ?_ W ?_).mono ?_
 ·rintro i W1 hi ⟨hb1, hc1⟩
  have hbb1 : b < W1.heap.size := World.block_lt_of_cell? W1 ⟨b, 0, none⟩ hc1
  have hpl : place key (8 * G.size) i < 8 * G.size := Nat.mod_lt _ (by omega)
  refine (has1 G (place key (8 * G.size) i) b (by omega) (by omega) W1 hc1).mono ?_
  rintro e w' ⟨rfl, h1⟩
  exact ⟨rfl, hb1.trans (h1.mono (by omega)), (h1.cell (p := ⟨b, 0, none⟩) hbb1).trans hc1⟩
 ·intro w1 hb1
  exact ⟨hb.trans (hb1.mono (by omega)), (hb1.cell (p := ⟨b, 0, none⟩) hbb).trans hc⟩
 ·rintro e w' ⟨j, hj, ⟨h1, h2⟩, rfl, h5⟩
  exact ⟨rfl, h1⟩
set_option maxHeartbeats 4000000 in
theorem has_any (F key : ByteArray) (hkey : key.size ≤ 9223372036854775807) (w : World) : Calls Try.prog 25 #[.string F, .string key] w fun e w' => e = .returned (.bool (has F key)) ∧ Below w.heap.size w w' := by
 have HC := Lib.hid (check_any F)
 by_cases hf : fine F
 ·have hc : chk F = 0 := by unfold chk; rw [if_pos hf]
  have hh : has F key = (List.range ((L F).getD 0 0).toNat).all (fun i => PBloom.bitOf ((L F).drop 1) (place key (8 * (F.size - 1)) i)) := by unfold has; rw [if_pos hf]
  rw [hc] at HC
  have HH := Lib.hid hh
  clear hh hc
  have h9 : (9 : Int) ≤ (F.size : Int) := by have := hf.1; omega
  have h10 : (F.size : Int) ≤ 262145 := by have := hf.2.1; omega
  have hmf : ∀ (fn : Fn) (first cap : Array Value) (w : World), (Instr.makeFunc fn first cap).run Try.prog w = .ok (.func fn first cap) w := fun _ _ _ _ => rfl
  go_enter Try.func25, Try.ntmps25
  go_wp2_with fail
  refine (HC.out _).mono ?_
  rintro e w1 ⟨rfl, hb1⟩
  go_wp2_with fail
  have bx := Box.new w1 (.string (F.extract 1 F.size)) 9
  have hb2 := hb1.alloc hb1.size (.cells #[.string (F.extract 1 F.size)] 9)
  have hbn : w.heap.size ≤ w1.heap.size := hb1.size
  generalize w1.alloc (.cells #[.string (F.extract 1 F.size)] 9) = W1 at bx hb2 ⊢
  generalize w1.heap.size = b at bx hbn ⊢
  have hG : (F.extract 1 F.size).size = F.size - 1 := by simp
  have hGL : L (F.extract 1 F.size) = (L F).drop 1 := L_drop F 1
  have g0 : 0 < F.size := by omega
  have hx : (F[0]'g0).toNat = ((L F).getD 0 0).toNat := by rw [List.getD_eq_getElem?_getD, List.getElem?_eq_getElem (by rw [q0g]; omega)]; rfl
  have hx3 : (F[0]'g0).toNat ≤ 22 := by rw [hx]; exact hf.2.2.2
  have HH2 := HH.out
  rw [← hG, ← hGL, ← hx] at HH2
  have HV := HH2
  clear HH HH2
  have hG2 : 8 ≤ (F.extract 1 F.size).size ∧ (F.extract 1 F.size).size ≤ 262144 := by rw [hG]; omega
  have hE := has_each key hkey (F.extract 1 F.size) hG2.1 hG2.2 (F[0]'g0).toNat (by omega) b w.heap.size w hbn
  generalize F.extract 1 F.size = G at bx hG2 hE HV ⊢
  clear hG hGL hx hf
  obtain ⟨V, hV⟩ : ∃ V, (List.range (F[0]'g0).toNat).all (fun i => PBloom.bitOf (L G) (place key (8 * G.size) i)) = V := ⟨_, rfl⟩
  rw [hV] at HV hE
  clear hV
  replace HV := Lib.hid HV
  have HE := Lib.hid hE
  clear hE
  have bc := bx.cell
  have c0 : 0 ≤ (G.size : Int) := by omega
  have c1 : (G.size : Int) ≤ 262144 := by omega
  have u1 : IntKind.i64.wrap ((F[0]'g0).toNat : Int) = ((F[0]'g0).toNat : Int) := by rw [IntKind.wrap_i64]; omega
  have u2 : IntKind.u32.wrap (G.size : Int) = (G.size : Int) := by rw [IntKind.wrap_u32]; omega
  have u3 : IntKind.u32.wrap ((G.size : Int) * 8) = (G.size : Int) * 8 := by rw [IntKind.wrap_u32]; omega
  clear hx3
  go_region_with (go_at_call 52; with_reducible refine (HE.out _ (by first | exact hb2.drew | exact hb2) (by first | exact bx.cell | exact bx.drew.cell)).mono ?_; rintro e w' ⟨rfl, hb'⟩)
  all_goals (go_wp2_with fail; go_ret; exact ⟨by rw [HV.out]; rfl, hb'⟩)
 ·have hc : chk F = 7 := by unfold chk; rw [if_neg hf]
  have hh : has F key = true := by unfold has; rw [if_neg hf]
  rw [hc] at HC
  rw [hh]
  clear hh hc
  go_enter Try.func25, Try.ntmps25
  go_wp2_with fail
  refine (HC.out _).mono ?_
  rintro e w1 ⟨rfl, hb1⟩
  go_wp2_with fail
  go_ret
  exact ⟨rfl, hb1⟩
end Go.Proofs.Ytaigmemmgjlhgaa.Bloom
-- GBloom
namespace Go.Proofs.Ytaigmemmgjlhgaa.Print
set_option linter.unusedVariables false
open Go.RowKit PLink Txt Go.Proofs.YtaigmemmgjlhgaaW.PrintWords
def bloom_Make.f (l : List ByteArray) (a1 : Int) : Option (ByteArray × Int) :=
 if a1 < 1 ∨ 32 < a1 then some (⟨#[]⟩, 2) else if l.length ≤ 65536 ∧ ∀ s ∈ l, s.size ≤ 9223372036854775807 then some (B (Bloom.filter a1.toNat l), 0) else none
theorem bloom_Make.calls (A0 : Option Addr) (c0 : Nat) (l0 : List ByteArray) (a1 : Int) (r1 : ByteArray) (r2 : Int) (w : World) (hr0 : Kd.C Kd.string w A0 l0.length l0) (hc0 : l0.length ≤ c0) (h : bloom_Make.f l0 a1 = some (r1, r2)) :
  Calls Try.prog 37 #[.slice A0 l0.length c0, .int .i64 a1] w fun e w' => e = .returned (.tuple #[.string r1, .int .i64 r2]) ∧ Below w.heap.size w w' := by
 unfold bloom_Make.f at h
 split at h
 ·rename_i hc
  simp only [Option.some.injEq, Prod.mk.injEq] at h
  obtain ⟨rfl, rfl⟩ := h
  exact Bloom.make_bad A0 c0 l0.length a1 hc w
 ·rename_i hc
  split at h
  ·rename_i hl
   simp only [Option.some.injEq, Prod.mk.injEq] at h
   obtain ⟨rfl, rfl⟩ := h
   obtain ⟨q, rfl⟩ : ∃ q : Nat, a1 = q := ⟨a1.toNat, by omega⟩
   exact Bloom.make_any A0 c0 l0 w hr0 hl.2 hl.1 q (by omega) (by omega)
  ·cases h
def bloom_Has.f (a0 a1 : ByteArray) : Option Bool := if a1.size ≤ 9223372036854775807 then some (Bloom.has a0 a1) else none
theorem bloom_Has.calls (a0 a1 : ByteArray) (r : Bool) (w : World) (h : bloom_Has.f a0 a1 = some r) :
  Calls Try.prog 25 #[.string a0, .string a1] w fun e w' => e = .returned (.bool r) ∧ Below w.heap.size w w' := by
 unfold bloom_Has.f at h
 split at h
 ·rename_i hc
  obtain rfl : Bloom.has a0 a1 = r := by simpa using h
  exact Bloom.has_any a0 a1 hc w
 ·cases h
end Go.Proofs.Ytaigmemmgjlhgaa.Print
-- PBloomG
namespace Go.Proofs.Ytaigmemmgjlhgaa.Bloom
open Go.RowKit PLink Txt Go.Proofs.YtaigmemmgjlhgaaW.PrintWords
theorem probes_lo (q : Nat) : 1 ≤ probes q := by unfold probes; omega
theorem probes_hi (q : Nat) (h : q ≤ 32) : probes q ≤ 22 := by unfold probes; omega
theorem width_lo (n q : Nat) : 8 ≤ width n q := by unfold width; omega
theorem width_hi (n q : Nat) (hn : n ≤ 400) (hq : q ≤ 32) : width n q ≤ 1600 := by
 have : n * q ≤ 400 * 32 := Nat.mul_le_mul hn hq
 unfold width; omega
theorem filter_length (q : Nat) (l : List ByteArray) : (filter q l).length = 1 + width l.length q := by
 unfold filter
 rw [List.length_cons, PBloom.setAll_length]
 simp [PBloom.zeros]; omega
theorem filter_size (q : Nat) (l : List ByteArray) : (B (filter q l)).size = 1 + width l.length q := by rw [q0n, filter_length]
theorem filter_first (q : Nat) (l : List ByteArray) (hq : q ≤ 32) : ((L (B (filter q l))).getD 0 0).toNat = probes q := by
 have := probes_hi q hq
 show (UInt8.ofNat (probes q)).toNat = _
 simp; omega
theorem filter_rest (q : Nat) (l : List ByteArray) : (L (B (filter q l))).drop 1 = PBloom.setAll (PBloom.zeros (width l.length q)) (q1q (8 * width l.length q) (probes q) l) := rfl
theorem fine_filter (q : Nat) (l : List ByteArray) (hq : q ≤ 32) (hl : l.length ≤ 400) : fine (B (filter q l)) := by
 have h1 := width_lo l.length q
 have h2 := width_hi l.length q hl hq
 have h3 := probes_lo q
 have h4 := probes_hi q hq
 refine ⟨by rw [filter_size]; omega, by rw [filter_size]; omega, by rw [filter_first q l hq]; omega, by rw [filter_first q l hq]; omega⟩
theorem chk_filter (q : Nat) (l : List ByteArray) (hq : q ≤ 32) (hl : l.length ≤ 400) : chk (B (filter q l)) = 0 := by unfold chk; rw [if_pos (fine_filter q l hq hl)]
theorem bits_lt {m k : Nat} (hm : 0 < m) {l : List ByteArray} {i : Nat} (h : i ∈ q1q m k l) : i < m := by
 unfold q1q at h
 obtain ⟨key, _, hi⟩ := List.mem_flatMap.1 h
 obtain ⟨j, _, rfl⟩ := List.mem_map.1 hi
 exact Nat.mod_lt _ hm
theorem bits_mem {m k : Nat} {l : List ByteArray} {key : ByteArray} (h : key ∈ l) {j : Nat} (hj : j < k) : place key m j ∈ q1q m k l :=
 List.mem_flatMap.2 ⟨key, h, List.mem_map.2 ⟨j, List.mem_range.2 hj, rfl⟩⟩
theorem bit_filter (q : Nat) (l : List ByteArray) (i : Nat) : PBloom.bitOf ((L (B (filter q l))).drop 1) i = decide (i ∈ q1q (8 * width l.length q) (probes q) l) := by
 have h1 := width_lo l.length q
 rw [filter_rest, PBloom.bitOf_setAll _ _ _ (fun j hj => by
  have := bits_lt (by omega) hj
  simp [PBloom.zeros]; omega), PBloom.bitOf_zeros, Bool.or_false]
theorem has_filter (q : Nat) (l : List ByteArray) (hq : q ≤ 32) (key : ByteArray) (h : key ∈ l) : has (B (filter q l)) key = true := by
 unfold has
 split
 ·rw [filter_first q l hq, List.all_eq_true]
  intro j hj
  rw [bit_filter, filter_size, Nat.add_sub_cancel_left]
  exact decide_eq_true (bits_mem h (List.mem_range.1 hj))
 ·rfl
end Go.Proofs.Ytaigmemmgjlhgaa.Bloom
