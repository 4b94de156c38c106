/- A filter of which all bits are ones has every key, and one of which none is has no key: for every input. -/
import Derived.Test.YtdgfilbfkoeidaaPBloomF
import Derived.Test.YtdgfilbfkoeidaaPrint8
namespace Go.Proofs.Ytdgfilbfkoeidaa.Pure
open Go.RowKit PLink Txt Print Bloom Go.Proofs.YtdgfilbfkoeidaaW.PrintWords Go.Proofs.YtdgfilbfkoeidaaW.PrintMore
/-- a filter of one byte, n times -/
def same (p : Nat) (c : UInt8) (n : Nat) : ByteArray := B (UInt8.ofNat p :: List.replicate n c)
theorem same_size (p : Nat) (c : UInt8) (n : Nat) : (same p c n).size = n + 1 := by unfold same; rw [size_B]; simp
theorem same_first (p : Nat) (c : UInt8) (n : Nat) (hp : p ≤ 22) : ((L (same p c n)).getD 0 0).toNat = p := by
  show (UInt8.ofNat p).toNat = p
  simp; omega
theorem same_rest (p : Nat) (c : UInt8) (n : Nat) : (L (same p c n)).drop 1 = List.replicate n c := rfl
theorem same_fine (p : Nat) (c : UInt8) (n : Nat) (hp : 1 ≤ p) (hp2 : p ≤ 22) (hn : 8 ≤ n) (hn2 : n ≤ 300) : fine (same p c n) := by
  refine ⟨by rw [same_size]; omega, by rw [same_size]; omega, by rw [same_first _ _ _ hp2]; omega, by rw [same_first _ _ _ hp2]; omega⟩
theorem bit_same (c : UInt8) (n i : Nat) (hi : i < 8 * n) : PBloom.bitOf (List.replicate n c) i = c.toNat.testBit (i % 8) := by
  unfold PBloom.bitOf
  rw [List.getD_eq_getElem?_getD, List.getElem?_replicate, if_pos (by omega)]
  rfl
theorem ones_bits (s : Nat) (hs : s < 8) : (255 : UInt8).toNat.testBit s = true := by
  match s, hs with
  | 0, _ | 1, _ | 2, _ | 3, _ | 4, _ | 5, _ | 6, _ | 7, _ => rfl
theorem none_bits (s : Nat) : (0 : UInt8).toNat.testBit s = false := Nat.zero_testBit s
theorem has_ones (p n : Nat) (hp : 1 ≤ p) (hp2 : p ≤ 22) (hn : 8 ≤ n) (hn2 : n ≤ 300) (key : ByteArray) : has (same p 255 n) key = true := by
  unfold has
  rw [if_pos (same_fine p 255 n hp hp2 hn hn2), same_first _ _ _ hp2, same_rest, same_size, List.all_eq_true]
  intro j _
  have : place key (8 * (n + 1 - 1)) j < 8 * n := Nat.mod_lt _ (by omega)
  rw [bit_same _ _ _ this]
  exact ones_bits _ (by omega)
theorem has_none_ (p n : Nat) (hp : 1 ≤ p) (hp2 : p ≤ 22) (hn : 8 ≤ n) (hn2 : n ≤ 300) (key : ByteArray) : has (same p 0 n) key = false := by
  unfold has
  rw [if_pos (same_fine p 0 n hp hp2 hn hn2), same_first _ _ _ hp2, same_rest, same_size]
  have : place key (8 * (n + 1 - 1)) 0 < 8 * n := Nat.mod_lt _ (by omega)
  exact all_false (k := p) (i := 0) (by omega) ((bit_same _ _ _ this).trans (none_bits _))
theorem ones_same (c : UInt8) (n : Nat) : PBloom.ones (List.replicate n c) = n * PBloom.pop 8 c.toNat := by
  induction n with
  | zero => simp [PBloom.ones]
  | succ n ih =>
    unfold PBloom.ones at ih ⊢
    rw [List.replicate_succ, List.map_cons, List.sum_cons, ih, Nat.succ_mul]
    omega
theorem ones_ones (p n : Nat) (hp : 1 ≤ p) (hp2 : p ≤ 22) (hn : 8 ≤ n) (hn2 : n ≤ 300) : ones (same p 255 n) = 8 * n := by
  unfold ones
  rw [if_pos (same_fine p 255 n hp hp2 hn hn2), same_rest, ones_same, show PBloom.pop 8 (UInt8.toNat 255) = 8 by decide]
  omega
theorem ones_none (p n : Nat) (hp : 1 ≤ p) (hp2 : p ≤ 22) (hn : 8 ≤ n) (hn2 : n ≤ 300) : ones (same p 0 n) = 0 := by
  unfold ones
  rw [if_pos (same_fine p 0 n hp hp2 hn hn2), same_rest, ones_same, show PBloom.pop 8 (UInt8.toNat 0) = 0 by decide]
  omega
/-- the bytes that have been filled -/
def part_ (n i : Nat) : List Int := List.replicate i 255 ++ List.replicate (n - i) 0
theorem part_set (n i : Nat) (h : i < n) : (part_ n i).set i 255 = part_ n (i + 1) := by
  unfold part_
  obtain ⟨m, hm⟩ : ∃ m, n - i = m + 1 := ⟨n - i - 1, by omega⟩
  rw [hm, show n - (i + 1) = m by omega, List.replicate_succ, List.replicate_succ', List.set_append, if_neg (by simp)]
  simp
theorem nums_same (p : Nat) (c : Int) (n : Nat) : strOfNums [(p : Int)] ++ strOfNums (List.replicate n c) = same p (UInt8.ofNat c.toNat) n := by
  apply L_inj
  rw [L_append, L_nums, L_nums]
  simp [same]
theorem nums_255 (p n : Nat) : strOfNums [(p : Int)] ++ strOfNums (List.replicate n 255) = same p 255 n := by
  rw [nums_same]
  rfl
theorem nums_0 (p n : Nat) : strOfNums [(p : Int)] ++ strOfNums (List.replicate n 0) = same p 0 n := by
  rw [nums_same]
  rfl
theorem ones_f (F : ByteArray) : bloom_Ones.f F = some ((ones F : Nat) : Int) := rfl
theorem full_gen (h1 h2 : Option Bool) (o1 o2 c : Option Int) (aw : Option Bool) (N : Int) (e1 : h1 = some true) (e2 : h2 = some false) (e3 : o1 = some N) (e4 : o2 = some 0) (e5 : c = some 0) (e6 : (aw.bind fun t => some t) = some true) :
    (h1.bind fun t193 => (if t193 = true then (h2.bind fun t194 => (if t194 = true then (some false) else (o1.bind fun t195 => (if t195 = N then (o2.bind fun t196 => (if t196 = 0 then (c.bind fun t197 => (if t197 = 0 then (aw.bind fun t198 => (some t198)) else (some false))) else (some false))) else (some false))))) else (some false))) = some true := by
  subst e1 e2 e3 e4 e5
  simp only [Option.bind_some, if_true, Bool.false_eq_true, if_false, e6]
/-- what is asked at the end -/
theorem full_end (p n : Nat) (hp : 1 ≤ p) (hp2 : p ≤ 22) (hn : 8 ≤ n) (hn2 : n ≤ 300) (key : ByteArray) (hk : key.size ≤ 140737488351232) :
    ((bloom_Has.f (same p 255 n) key).bind fun t193 => (if t193 = true then ((bloom_Has.f (same p 0 n) key).bind fun t194 => (if t194 = true then (some false) else ((bloom_Ones.f (same p 255 n)).bind fun t195 => (if t195 = (wrap64 (8 * (n : Int))) then ((bloom_Ones.f (same p 0 n)).bind fun t196 => (if t196 = 0 then ((bloom_Check.f (same p 255 n)).bind fun t197 => (if t197 = 0 then ((freshetlaw10_awake.f).bind fun t198 => (some t198)) else (some false))) else (some false))) else (some false))))) else (some false))) = some true :=
  full_gen _ _ _ _ _ _ _ ((has_f _ _ hk).trans (congrArg some (has_ones p n hp hp2 hn hn2 key))) ((has_f _ _ hk).trans (congrArg some (has_none_ p n hp hp2 hn hn2 key)))
    ((ones_f _).trans (congrArg some (by rw [ones_ones p n hp hp2 hn hn2, wrap_id (by omega) (by omega)]; rfl))) ((ones_f _).trans (congrArg some (by rw [ones_none p n hp hp2 hn hn2]; rfl)))
    ((check_f _).trans (congrArg some (by rw [chk, if_pos (same_fine p 255 n hp hp2 hn hn2)]; rfl))) awake_then
theorem same_fits (p : Nat) (c : Int) (n : Nat) (hn2 : n ≤ 300) : (strOfNums [(p : Int)]).size + (strOfNums (List.replicate n c)).size ≤ 9223372036854775807 := by
  have z1 := same_size p (UInt8.ofNat c.toNat) n
  rw [← nums_same, ByteArray.size_append] at z1
  omega
theorem full_l0 (p n : Nat) (hp : 1 ≤ p) (hp2 : p ≤ 22) (hn : 8 ≤ n) (hn2 : n ≤ 300) (key : ByteArray) (hk : key.size ≤ 140737488351232) (d : Nat) : ∀ i : Nat, i + d = n →
    Ev (fun k => freshetlaw10_BloomFull.l0 k (p : Int) (n : Int) key (part_ n i) (List.replicate n 0) (i : Int)) true := by
  induction d with
  | zero =>
    intro i hi
    obtain rfl : i = n := by omega
    have e1 : part_ i i = List.replicate i 255 := by unfold part_; simp
    refine Ev.step (f := fun _ => some true) (fun k => ?_) (Ev.now _)
    rw [freshetlaw10_BloomFull.l0, if_neg (by omega), e1]
    simp only [Option.bind_some]
    rw [if_pos (same_fits p 255 i hn2), if_pos (same_fits p 0 i hn2), nums_255, nums_0, full_end p i hp hp2 hn hn2 key hk]
  | succ d ih =>
    intro i hi
    refine Ev.step (f := fun k => freshetlaw10_BloomFull.l0 k (p : Int) (n : Int) key (part_ n (i + 1)) (List.replicate n 0) ((i + 1 : Nat) : Int)) (fun k => ?_) (ih (i + 1) (by omega))
    have hl : (part_ n i).length = n := by unfold part_; simp; omega
    rw [freshetlaw10_BloomFull.l0, if_pos (by omega), if_pos (by omega), if_pos (by omega), Int.toNat_natCast, part_set n i (by omega), wrap_id (by omega) (by omega)]
    rfl
theorem BloomFull : freshetlaw10_BloomFull.Pure := by
  intro a0 a1 key _ _ hK
  refine Ev.rounds ?_
  unfold freshetlaw10_BloomFull.f
  have out : Ev (fun k => freshetlaw10_BloomFull.j0 k a0 a1 key true) true := by
    refine Ev.step (f := fun _ => some true) (fun k => ?_) (Ev.now _)
    rw [freshetlaw10_BloomFull.j0, if_pos rfl, awake_then]
  by_cases h1 : a1 < 8
  · simp only [if_pos h1]; exact out
  · simp only [if_neg h1]
    by_cases h2 : a1 > 300
    · simp only [if_pos h2]; exact out
    · simp only [if_neg h2]
      by_cases h3 : a0 < 1
      · simp only [if_pos h3]; exact out
      · simp only [if_neg h3]
        by_cases h4 : a0 > 22
        · simp only [if_pos h4]; exact out
        · simp only [if_neg h4]
          by_cases h5 : (key.size : Int) > 300
          · rw [decide_eq_true h5]; exact out
          · rw [decide_eq_false h5]
            obtain ⟨p, rfl⟩ : ∃ p : Nat, a0 = p := ⟨a0.toNat, by omega⟩
            obtain ⟨n, rfl⟩ : ∃ n : Nat, a1 = n := ⟨a1.toNat, by omega⟩
            refine Ev.step (f := fun k => freshetlaw10_BloomFull.l0 k (p : Int) (n : Int) key (part_ n 0) (List.replicate n 0) ((0 : Nat) : Int)) (fun k => ?_) (full_l0 p n (by omega) (by omega) (by omega) (by omega) key hK n 0 (by omega))
            rw [freshetlaw10_BloomFull.j0, if_neg (by simp), if_pos (by omega), if_pos (by omega)]
            simp only [Int.toNat_natCast]
            rfl
end Go.Proofs.Ytdgfilbfkoeidaa.Pure
