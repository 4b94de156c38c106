/- The filter of any keys, with any number of bits, is the document's, or refused; and the keys stay: for every input. -/
import Derived.Test.YtdgfilbfkoeidaaPBloomF
import Derived.Test.YtdgfilbfkoeidaaPrint3
import Derived.Test.YtdgfilbfkoeidaaPrint2
namespace Go.Proofs.Ytdgfilbfkoeidaa.Pure
open Go.RowKit PLink Txt Print Bloom Go.Proofs.YtdgfilbfkoeidaaW.PrintWords Go.Proofs.YtdgfilbfkoeidaaW.PrintMore
/-- bytes as numbers -/
def nums (l : List UInt8) : List Int := l.map fun c => (c.toNat : Int)
theorem nums_length (l : List UInt8) : (nums l).length = l.length := List.length_map _
theorem nums_zeros (n : Nat) : nums (PBloom.zeros n) = List.replicate n 0 := by unfold nums PBloom.zeros; rw [List.map_replicate]; rfl
theorem str_nums (l : List UInt8) : strOfNums (nums l) = B l := by
  apply L_inj
  rw [L_nums]
  show (l.map _).map _ = l
  rw [List.map_map]
  have : ((fun x : Int => UInt8.ofNat x.toNat) ∘ fun c : UInt8 => (c.toNat : Int)) = id := by funext c; simp
  rw [this, List.map_id]
theorem nums_set (l : List UInt8) (b : Nat) (hb : b / 8 < l.length) : (nums l).set (b / 8) (Go.bits .or .u8 (rd (nums l) ((b / 8 : Nat) : Int)) (shl .u8 1 ((b % 8 : Nat) : Int))) = nums (PBloom.setBit l b) := by
  have e1 : rd (nums l) ((b / 8 : Nat) : Int) = ((l.getD (b / 8) 0).toNat : Int) := by
    unfold rd nums
    rw [Int.toNat_natCast, List.getD_eq_getElem?_getD, List.getElem?_map, List.getD_eq_getElem?_getD, List.getElem?_eq_getElem hb]
    rfl
  have e2 : shl .u8 1 ((b % 8 : Nat) : Int) = 2 ^ (b % 8) % 256 := by
    unfold shl
    rw [Int.toNat_natCast, show min (b % 8) IntKind.u8.bits = b % 8 from by show min (b % 8) 8 = _; omega, Int.one_mul]
    rfl
  rw [e1, e2, marked _ _ (by omega)]
  unfold nums PBloom.setBit
  rw [List.map_set]
theorem refmake_l1_end (l : List ByteArray) (K m : Nat) (x : List UInt8) (hK : K ≤ 22) (hx : x.length ≤ 2000) : Ev (fun k => freshetref10_Make.l1 k l (K : Int) (m : Int) (nums x) (l.length : Int)) (B (UInt8.ofNat K :: x), 0) := by
  refine Ev.step (f := fun _ => some _) (fun k => ?_) (Ev.now _)
  have e1 : ((K : Int) % 256) = (K : Int) := by omega
  have e2 : strOfNums [(K : Int)] = B [UInt8.ofNat K] := by
    apply L_inj
    rw [L_nums]
    show [UInt8.ofNat (K : Int).toNat] = [UInt8.ofNat K]
    rw [Int.toNat_natCast]
  rw [freshetref10_Make.l1, if_neg (by omega), e1]
  simp only [Option.bind_some]
  rw [e2, str_nums, if_pos (by rw [size_B, size_B]; simp only [List.length_cons, List.length_nil]; omega)]
  congr 2
theorem refmake_round (k : Nat) (l : List ByteArray) (K M W : Nat) (x : List UInt8) (i j p : Nat) (hx : x.length = W) (hW : W ≤ 2000) (hp : p / 8 < W) (hj : j ≤ 1000) :
    (if 0 ≤ ((Int.tdiv (p : Int) 8) % 4294967296) then (if ((Int.tdiv (p : Int) 8) % 4294967296) < ((nums x).length : Int) then (if 0 ≤ (Int.tmod (p : Int) 8) then (freshetref10_Make.l2 k l (K : Int) (M : Int) ((nums x).set (((Int.tdiv (p : Int) 8) % 4294967296) : Int).toNat (Go.bits .or .u8 (rd (nums x) ((Int.tdiv (p : Int) 8) % 4294967296)) (shl .u8 1 (Int.tmod (p : Int) 8)))) (i : Int) (wrap64 ((j : Int) + 1))) else (none)) else (none)) else (none)) = freshetref10_Make.l2 k l (K : Int) (M : Int) (nums (PBloom.setBit x p)) (i : Int) ((j + 1 : Nat) : Int) := by
  have d1 : ((Int.tdiv (p : Int) 8) % 4294967296) = ((p / 8 : Nat) : Int) := by rw [Int.tdiv_eq_ediv_of_nonneg (by omega)]; omega
  have d3 : Int.tmod (p : Int) 8 = ((p % 8 : Nat) : Int) := by rw [Int.tmod_eq_emod_of_nonneg (by omega)]; omega
  have e3 : wrap64 ((j : Int) + 1) = ((j + 1 : Nat) : Int) := wrap_id (x := ((j + 1 : Nat) : Int)) (by omega) (by omega)
  rw [d1, d3, e3, if_pos (by omega), if_pos (by rw [nums_length]; omega), if_pos (by omega), Int.toNat_natCast, nums_set x p (by omega)]
theorem refmake_l2 (l : List ByteArray) (hsz : ∀ s ∈ l, s.size ≤ 140737488351232) (K W : Nat) (hK : K ≤ 22) (hW : 8 ≤ W) (hW2 : W ≤ 2000) (r : ByteArray × Int) (i : Nat) (hi : i < l.length) (hl : l.length ≤ 400) (d : Nat) : ∀ (j : Nat) (x : List UInt8), j + d = K → x.length = W →
    Ev (fun k => freshetref10_Make.l1 k l (K : Int) ((8 * W : Nat) : Int) (nums (PBloom.setAll x (((List.range' j d).map (place l[i] (8 * W)))))) ((i + 1 : Nat) : Int)) r → Ev (fun k => freshetref10_Make.l2 k l (K : Int) ((8 * W : Nat) : Int) (nums x) (i : Int) (j : Int)) r := by
  induction d with
  | zero =>
    intro j x hj hx h
    refine Ev.step (fun k => ?_) h
    rw [freshetref10_Make.l2, if_neg (by omega), wrap_id (by omega) (by omega)]
    rfl
  | succ d ih =>
    intro j x hj hx h
    have hb := ref_bit l[i] (by have := hsz l[i] (List.getElem_mem hi); omega) j (8 * W) (by omega) (by omega)
    have hpl : place l[i] (8 * W) j < 8 * W := Nat.mod_lt _ (by omega)
    rw [List.range'_succ, List.map_cons] at h
    generalize place l[i] (8 * W) j = p at hb hpl h
    have hn := ih (j + 1) (PBloom.setBit x p) (by omega) (by rw [PBloom.setBit_length]; exact hx) h
    have em : (((8 * W : Nat) : Int) % 4294967296) = ((8 * W : Nat) : Int) := by omega
    refine Ev.step (f := fun k => (freshetref10_Bit.f k l[i] (j : Int) ((8 * W : Nat) : Int)).bind fun t119 => (if 0 ≤ ((Int.tdiv t119 8) % 4294967296) then (if ((Int.tdiv t119 8) % 4294967296) < ((nums x).length : Int) then (if 0 ≤ (Int.tmod t119 8) then (freshetref10_Make.l2 k l (K : Int) ((8 * W : Nat) : Int) ((nums x).set (((Int.tdiv t119 8) % 4294967296) : Int).toNat (Go.bits .or .u8 (rd (nums x) ((Int.tdiv t119 8) % 4294967296)) (shl .u8 1 (Int.tmod t119 8)))) (i : Int) (wrap64 ((j : Int) + 1))) else (none)) else (none)) else (none))) (fun k => ?_) (Ev.bind hb ?_)
    · rw [freshetref10_Make.l2, if_pos (by omega), if_pos (by omega), if_pos (by omega), rdOf_key l i hi, em]
    · exact Ev.congr (fun k => refmake_round k l K (8 * W) W x i j p hx hW2 (by omega) (by omega)) hn
theorem refmake_l1 (l : List ByteArray) (hsz : ∀ s ∈ l, s.size ≤ 140737488351232) (K W : Nat) (hK : K ≤ 22) (hW : 8 ≤ W) (hW2 : W ≤ 2000) (hl : l.length ≤ 400) (d : Nat) : ∀ (i : Nat), i + d = l.length →
    Ev (fun k => freshetref10_Make.l1 k l (K : Int) ((8 * W : Nat) : Int) (nums (PBloom.setAll (PBloom.zeros W) (bitsOf (8 * W) K (l.take i)))) (i : Int)) (B (UInt8.ofNat K :: PBloom.setAll (PBloom.zeros W) (bitsOf (8 * W) K l)), 0) := by
  have hlen : ∀ a, (PBloom.setAll (PBloom.zeros W) a).length = W := fun a => by rw [PBloom.setAll_length]; simp [PBloom.zeros]
  induction d with
  | zero =>
    intro i hi
    obtain rfl : i = l.length := by omega
    rw [List.take_length]
    exact refmake_l1_end l K (8 * W) _ hK (by rw [hlen]; omega)
  | succ d ih =>
    intro i hi
    have hlt : i < l.length := by omega
    have h := ih (i + 1) (by omega)
    rw [bits_snoc _ _ _ _ hlt, PBloom.setAll_append] at h
    refine Ev.step (f := fun k => freshetref10_Make.l2 k l (K : Int) ((8 * W : Nat) : Int) (nums (PBloom.setAll (PBloom.zeros W) (bitsOf (8 * W) K (l.take i)))) (i : Int) ((0 : Nat) : Int)) (fun k => ?_) (refmake_l2 l hsz K W hK hW hW2 _ i hlt hl K 0 _ (by omega) (hlen _) ?_)
    · rw [freshetref10_Make.l1, if_pos (by omega)]
      rfl
    · rw [List.getD_eq_getElem?_getD, List.getElem?_eq_getElem hlt] at h
      rw [← List.range_eq_range']
      exact h
theorem refmake_l0 (l : List ByteArray) (K : Nat) (W : Nat) (hW : 8 ≤ W) (hW2 : W ≤ 2000) (r : ByteArray × Int) (h : Ev (fun k => freshetref10_Make.l1 k l (K : Int) ((8 * W : Nat) : Int) (nums (PBloom.zeros W)) 0) r) (d : Nat) : ∀ x : Nat, x + d = 8 * W → d < 8 → Ev (fun k => freshetref10_Make.l0 k l (K : Int) (x : Int)) r := by
  induction d with
  | zero =>
    intro x hx _
    obtain rfl : x = 8 * W := by omega
    have e1 : wrap64 (Int.tdiv ((8 * W : Nat) : Int) 8) = (W : Int) := by rw [Int.tdiv_eq_ediv_of_nonneg (by omega), wrap_id (by omega) (by omega)]; omega
    refine Ev.step (fun k => ?_) h
    rw [freshetref10_Make.l0, if_pos (by rw [Int.tmod_eq_emod_of_nonneg (by omega)]; omega), e1, if_pos (by omega), if_pos (by omega), Int.toNat_natCast, nums_zeros]
  | succ d ih =>
    intro x hx hd
    refine Ev.step (f := fun k => freshetref10_Make.l0 k l (K : Int) ((x + 1 : Nat) : Int)) (fun k => ?_) (ih (x + 1) (by omega) (by omega))
    rw [freshetref10_Make.l0, if_neg (by rw [Int.tmod_eq_emod_of_nonneg (by omega)]; omega), wrap_id (by omega) (by omega)]
    rfl
theorem refmake_j (l : List ByteArray) (hsz : ∀ s ∈ l, s.size ≤ 140737488351232) (hl : l.length ≤ 400) (q : Nat) (h2 : q ≤ 32) : Ev (fun k => freshetref10_Make.j1 k l (q : Int) (probes q : Int)) (B (filter q l), 0) := by
  have w1 := width_lo l.length q
  have w2 := width_hi l.length q hl h2
  have p1 := probes_hi q h2
  have e2 : l.length * q ≤ 400 * 32 := Nat.mul_le_mul hl h2
  have e1 : wrap64 ((l.length : Int) * (q : Int)) = ((l.length * q : Nat) : Int) := by
    rw [← Int.natCast_mul, wrap_id (by omega) (by omega)]
  have hm := refmake_l1 l hsz (probes q) (width l.length q) p1 w1 (by omega) hl l.length 0 (by omega)
  have hz : nums (PBloom.setAll (PBloom.zeros (width l.length q)) (bitsOf (8 * width l.length q) (probes q) (l.take 0))) = nums (PBloom.zeros (width l.length q)) := rfl
  rw [hz] at hm
  have h0 := refmake_l0 l (probes q) (width l.length q) w1 (by omega) _ hm
  have hw : width l.length q = max ((l.length * q + 7) / 8) 8 := rfl
  by_cases c : l.length * q < 64
  · refine Ev.step (f := fun k => freshetref10_Make.j2 k l (probes q : Int) ((64 : Nat) : Int)) (fun k => ?_) ?_
    · rw [freshetref10_Make.j1, e1, if_pos (by omega)]
      rfl
    · refine Ev.step (fun k => ?_) (h0 (8 * width l.length q - 64) 64 (by omega) (by omega))
      rw [freshetref10_Make.j2]
  · refine Ev.step (f := fun k => freshetref10_Make.j2 k l (probes q : Int) ((l.length * q : Nat) : Int)) (fun k => ?_) ?_
    · rw [freshetref10_Make.j1, e1, if_neg (by omega)]
    · refine Ev.step (fun k => ?_) (h0 (8 * width l.length q - l.length * q) (l.length * q) (by omega) (by omega))
      rw [freshetref10_Make.j2]
theorem refmake_f (l : List ByteArray) (hsz : ∀ s ∈ l, s.size ≤ 140737488351232) (hl : l.length ≤ 400) (a1 : Int) (r : ByteArray × Int) (h : bloom_Make.f l a1 = some r) : Ev (fun k => freshetref10_Make.f k l a1) r := by
  unfold freshetref10_Make.f
  have out : ∀ c, (a1 < 1 ∨ 32 < a1) → c = true → Ev (fun k => freshetref10_Make.j0 k l a1 c) r := by
    rintro _ hc rfl
    rw [make_off l a1 hc] at h
    obtain rfl : ((⟨#[]⟩ : ByteArray), (2 : Int)) = r := by simpa using h
    refine Ev.step (f := fun _ => some _) (fun k => ?_) (Ev.now _)
    rw [freshetref10_Make.j0, if_pos rfl]
  by_cases h1 : a1 < 1
  · simp only [if_pos h1]; exact out _ (Or.inl h1) rfl
  · simp only [if_neg h1]
    by_cases h2 : a1 > 32
    · exact out _ (Or.inr h2) (decide_eq_true h2)
    · rw [decide_eq_false h2]
      obtain ⟨q, rfl⟩ : ∃ q : Nat, a1 = q := ⟨a1.toNat, by omega⟩
      have hm := make_f l hl hsz (q : Int) (by omega) (by omega)
      rw [Int.toNat_natCast] at hm
      obtain rfl : (B (filter q l), (0 : Int)) = r := by
        have := hm.symm.trans h
        simpa using this
      refine Ev.step (fun k => ?_) (refmake_j l hsz hl q (by omega))
      have e8 : wrap64 (Int.tdiv (wrap64 ((q : Int) * 7)) 10) = ((q * 7 / 10 : Nat) : Int) := by
        rw [wrap_id (x := (q : Int) * 7) (by omega) (by omega), Int.tdiv_eq_ediv_of_nonneg (by omega), wrap_id (by omega) (by omega)]
        omega
      have hp : probes q = max (q * 7 / 10) 1 := rfl
      rw [freshetref10_Make.j0, if_neg (by simp), if_neg (by omega), e8]
      by_cases c : q * 7 / 10 = 0
      · rw [if_pos (by omega), hp, c]
        rfl
      · rw [if_neg (by omega), hp, show max (q * 7 / 10) 1 = q * 7 / 10 by omega]
theorem make_l0 (l : List ByteArray) (hl : l.length ≤ 400) (F : ByteArray) (e : Int) (d : Nat) : ∀ i : Nat, i + d = l.length → Ev (fun k => freshetlaw10_BloomMake.l0 k l l F e F e (i : Int)) true := by
  induction d with
  | zero =>
    intro i hi
    refine Ev.step (f := fun _ => some true) (fun k => ?_) (Ev.now _)
    rw [freshetlaw10_BloomMake.l0, if_neg (by omega), if_pos rfl, if_pos rfl, awake_then]
  | succ d ih =>
    intro i hi
    refine Ev.step (f := fun k => freshetlaw10_BloomMake.l0 k l l F e F e ((i + 1 : Nat) : Int)) (fun k => ?_) (ih (i + 1) (by omega))
    rw [freshetlaw10_BloomMake.l0, if_pos (by omega), if_pos (by omega), if_pos (by omega), if_pos rfl, wrap_id (by omega) (by omega)]
    rfl
theorem BloomMake (l : List ByteArray) (hsz : ∀ s ∈ l, s.size ≤ 140737488351232) (a1 : Int) : ∃ k, freshetlaw10_BloomMake.f k l a1 = some true := by
  refine Ev.rounds ?_
  unfold freshetlaw10_BloomMake.f
  by_cases h : (l.length : Int) > 400
  · simp only [if_pos h, awake_then]; exact Ev.now _
  · simp only [if_neg h, Option.bind_some, List.nil_append]
    have hl : l.length ≤ 400 := by omega
    simp only [if_pos (show ([] : List ByteArray).length + l.length < 8796093022208 by simp only [List.length_nil]; omega)]
    obtain ⟨r, hr⟩ : ∃ r, bloom_Make.f l a1 = some r := by
      by_cases c : a1 < 1 ∨ 32 < a1
      · exact ⟨_, make_off l a1 c⟩
      · exact ⟨_, make_f l hl hsz a1 (by omega) (by omega)⟩
    rw [hr]
    simp only [Option.bind_some]
    refine Ev.bind (refmake_f l hsz hl a1 r hr) ?_
    exact make_l0 l hl r.1 r.2 l.length 0 (by omega)
end Go.Proofs.Ytdgfilbfkoeidaa.Pure
