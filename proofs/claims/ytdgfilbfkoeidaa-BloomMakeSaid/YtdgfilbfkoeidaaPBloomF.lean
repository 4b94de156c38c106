/- The filter of some keys: its length, its bits, what it tells. -/
import Derived.Test.YtdgfilbfkoeidaaRBloomA
namespace Go.Proofs.Ytdgfilbfkoeidaa.Bloom
open Go.RowKit PLink Txt Go.Proofs.YtdgfilbfkoeidaaW.PrintWords
theorem probes_lo (q : Nat) : 1 ≤ probes q := by unfold probes; omega
theorem probes_hi (q : Nat) (h : q ≤ 32) : probes q ≤ 22 := by unfold probes; omega
theorem width_lo (n q : Nat) : 8 ≤ width n q := by unfold width; omega
theorem width_hi (n q : Nat) (hn : n ≤ 400) (hq : q ≤ 32) : width n q ≤ 1600 := by
  have : n * q ≤ 400 * 32 := Nat.mul_le_mul hn hq
  unfold width; omega
theorem filter_length (q : Nat) (l : List ByteArray) : (filter q l).length = 1 + width l.length q := by
  unfold filter
  rw [List.length_cons, PBloom.setAll_length]
  simp [PBloom.zeros]; omega
theorem filter_size (q : Nat) (l : List ByteArray) : (B (filter q l)).size = 1 + width l.length q := by rw [size_B, filter_length]
theorem filter_first (q : Nat) (l : List ByteArray) (hq : q ≤ 32) : ((L (B (filter q l))).getD 0 0).toNat = probes q := by
  have := probes_hi q hq
  show (UInt8.ofNat (probes q)).toNat = _
  simp; omega
theorem filter_rest (q : Nat) (l : List ByteArray) : (L (B (filter q l))).drop 1 = PBloom.setAll (PBloom.zeros (width l.length q)) (bitsOf (8 * width l.length q) (probes q) l) := rfl
theorem fine_filter (q : Nat) (l : List ByteArray) (hq : q ≤ 32) (hl : l.length ≤ 400) : fine (B (filter q l)) := by
  have h1 := width_lo l.length q
  have h2 := width_hi l.length q hl hq
  have h3 := probes_lo q
  have h4 := probes_hi q hq
  refine ⟨by rw [filter_size]; omega, by rw [filter_size]; omega, by rw [filter_first q l hq]; omega, by rw [filter_first q l hq]; omega⟩
theorem chk_filter (q : Nat) (l : List ByteArray) (hq : q ≤ 32) (hl : l.length ≤ 400) : chk (B (filter q l)) = 0 := by unfold chk; rw [if_pos (fine_filter q l hq hl)]
theorem bits_lt {m k : Nat} (hm : 0 < m) {l : List ByteArray} {i : Nat} (h : i ∈ bitsOf m k l) : i < m := by
  unfold bitsOf at h
  obtain ⟨key, _, hi⟩ := List.mem_flatMap.1 h
  obtain ⟨j, _, rfl⟩ := List.mem_map.1 hi
  exact Nat.mod_lt _ hm
theorem bits_length (m k : Nat) (l : List ByteArray) : (bitsOf m k l).length = k * l.length := by
  unfold bitsOf
  induction l with
  | nil => rfl
  | cons a l ih => rw [List.flatMap_cons, List.length_append, ih]; simp [Nat.mul_succ]; omega
theorem bits_mem {m k : Nat} {l : List ByteArray} {key : ByteArray} (h : key ∈ l) {j : Nat} (hj : j < k) : place key m j ∈ bitsOf m k l :=
  List.mem_flatMap.2 ⟨key, h, List.mem_map.2 ⟨j, List.mem_range.2 hj, rfl⟩⟩
theorem bit_filter (q : Nat) (l : List ByteArray) (i : Nat) : PBloom.bitOf ((L (B (filter q l))).drop 1) i = decide (i ∈ bitsOf (8 * width l.length q) (probes q) l) := by
  have h1 := width_lo l.length q
  rw [filter_rest, PBloom.bitOf_setAll _ _ _ (fun j hj => by
    have := bits_lt (by omega) hj
    simp [PBloom.zeros]; omega), PBloom.bitOf_zeros, Bool.or_false]
theorem has_filter (q : Nat) (l : List ByteArray) (hq : q ≤ 32) (key : ByteArray) (h : key ∈ l) : has (B (filter q l)) key = true := by
  unfold has
  split
  · rw [filter_first q l hq, List.all_eq_true]
    intro j hj
    rw [bit_filter, filter_size, Nat.add_sub_cancel_left]
    exact decide_eq_true (bits_mem h (List.mem_range.1 hj))
  · rfl
theorem ones_filter (q : Nat) (l : List ByteArray) : PBloom.ones ((L (B (filter q l))).drop 1) ≤ probes q * l.length := by
  rw [filter_rest]
  have h := PBloom.ones_setAll (PBloom.zeros (width l.length q)) (bitsOf (8 * width l.length q) (probes q) l)
  rw [PBloom.ones_zeros, bits_length] at h
  omega
end Go.Proofs.Ytdgfilbfkoeidaa.Bloom
namespace Go.Proofs.Ytdgfilbfkoeidaa.Print
open Go.RowKit PLink Txt Bloom Go.Proofs.YtdgfilbfkoeidaaW.PrintWords
theorem make_f (l : List ByteArray) (h : l.length ≤ 400) (hsz : ∀ s ∈ l, s.size ≤ 140737488351232) (a1 : Int) (h1 : 1 ≤ a1) (h2 : a1 ≤ 32) : bloom_Make.f l a1 = some (B (filter a1.toNat l), 0) := by
  unfold bloom_Make.f
  rw [if_neg (by omega), if_pos ⟨by omega, fun s hs => by have := hsz s hs; omega⟩]
theorem make_off (l : List ByteArray) (a1 : Int) (h : a1 < 1 ∨ 32 < a1) : bloom_Make.f l a1 = some (⟨#[]⟩, 2) := by
  unfold bloom_Make.f
  rw [if_pos h]
theorem rdOf_key (l : List ByteArray) (i : Nat) (h : i < l.length) : rdOf ByteArray.empty l (i : Int) = l[i] := by
  unfold rdOf
  rw [Int.toNat_natCast, List.getD_eq_getElem?_getD, List.getElem?_eq_getElem h]
  rfl
theorem has_f (F key : ByteArray) (h : key.size ≤ 140737488351232) : bloom_Has.f F key = some (has F key) := by
  unfold bloom_Has.f
  rw [if_pos (by omega)]
theorem awake_then : ((freshetlaw10_awake.f).bind fun t => some t) = some true := by rw [awake10]; rfl
end Go.Proofs.Ytdgfilbfkoeidaa.Print
