/- Sums go with exclusive or: of three texts cut to one length, and the fourth one that makes each bit even, the four sums are 0 together: for every input. -/
import Derived.Test.YtdlnbddkploeoaaPSum
import Derived.Test.YtdlnbddkploeoaaPrint5
namespace Go.Proofs.Ytdlnbddkploeoaa.Pure
open Go.RowKit PLink Txt Print Go.Proofs.YtdlnbddkploeoaaW.PrintWords Go.Proofs.YtdlnbddkploeoaaW.PrintMore
theorem xor_u8 (c d : UInt8) : bits .xor .u8 (c.toNat : Int) (d.toNat : Int) = ((c ^^^ d).toNat : Int) := by
  rw [u8_xor_nat _ _ c.toNat_lt d.toNat_lt, UInt8.toNat_xor]
/-- a list that is filled from the front -/
theorem set_fill {l : List Int} {n i : Nat} {v : Int} (hn : l.length = n) (hv : l[i]? = some v) : (l.take i ++ List.replicate (n - i) 0).set i v = l.take (i + 1) ++ List.replicate (n - (i + 1)) 0 := by
  subst hn
  obtain ⟨h, rfl⟩ := List.getElem?_eq_some_iff.1 hv
  rw [List.set_append_right _ _ (by simp; omega)]
  have e : i - (l.take i).length = 0 := by simp; omega
  obtain ⟨m, hm⟩ : ∃ m, l.length - i = m + 1 := ⟨l.length - i - 1, by omega⟩
  rw [e, hm, List.replicate_succ, List.set_cons_zero, List.take_succ_eq_append_getElem h, List.append_assoc, List.singleton_append]
  rw [show l.length - (i + 1) = m by omega]
def three (a b c : List UInt8) : List UInt8 := List.zipWith (· ^^^ ·) (List.zipWith (· ^^^ ·) a b) c
theorem fold_three (r : BitVec 32) (a b c : List UInt8) (h1 : a.length = b.length) (h2 : b.length = c.length) : PCrc.fold r (three a b c) = PCrc.fold r a ^^^ PCrc.fold r b ^^^ PCrc.fold r c := by
  have e1 := PCrc.fold_xor r r a b h1
  have e2 := PCrc.fold_xor (r ^^^ r) r (List.zipWith (· ^^^ ·) a b) c (by simp; omega)
  rw [e1] at e2
  rw [BitVec.xor_self] at e2
  have : (0#32 ^^^ r) = r := BitVec.zero_xor
  rw [this] at e2
  exact e2
theorem four_zero (a b c : BitVec 32) : (~~~ a) ^^^ (~~~ b) ^^^ (~~~ c) ^^^ (~~~ (a ^^^ b ^^^ c)) = 0#32 := by
  apply BitVec.eq_of_getLsbD_eq
  intro i hi
  simp only [BitVec.getLsbD_xor, BitVec.getLsbD_not]
  cases a.getLsbD i <;> cases b.getLsbD i <;> cases c.getLsbD i <;> simp [hi]
theorem sums_four (a b c : List UInt8) (h1 : a.length = b.length) (h2 : b.length = c.length) : bits .xor .u32 (bits .xor .u32 (bits .xor .u32 (I (PCrc.sum 0 a)) (I (PCrc.sum 0 b))) (I (PCrc.sum 0 c))) (I (PCrc.sum 0 (three a b c))) = 0 := by
  rw [xor_word, xor_word, xor_word]
  unfold PCrc.sum
  rw [fold_three _ _ _ _ h1 h2, four_zero]
  rfl
/-- the fourth text's bytes, as the loop makes them -/
def nums4 (a b c : List UInt8) : List Int := (three a b c).map fun x => (x.toNat : Int)
theorem nums4_text (a b c : List UInt8) : L (strOfNums (nums4 a b c)) = three a b c := by
  rw [L_nums]
  unfold nums4
  rw [List.map_map]
  conv => rhs; rw [← List.map_id (three a b c)]
  congr 1
  funext x
  simp
theorem loop4 (a b c : ByteArray) (m : Nat) (ha : m ≤ a.size) (hb : m ≤ b.size) (hc : m ≤ c.size) (hs : a.size ≤ 140737488351232) (hs2 : b.size ≤ 140737488351232) (hs3 : c.size ≤ 140737488351232) (d : Nat) : ∀ i : Nat, i + d = m →
    Ev (fun k => freshetlaw01_SumFour.l0 k a b c m ((nums4 ((L a).take m) ((L b).take m) ((L c).take m)).take i ++ List.replicate (m - i) 0) i) true := by
  have hl : (nums4 ((L a).take m) ((L b).take m) ((L c).take m)).length = m := by
    unfold nums4 three
    have := L_length a
    have := L_length b
    have := L_length c
    simp; omega
  induction d with
  | zero =>
    intro i hi
    obtain rfl : i = m := by omega
    obtain ⟨K3, h3⟩ := awake01
    dsimp only at h3
    refine ⟨K3 + 1, fun k hk => ?_⟩
    obtain ⟨k, rfl⟩ : ∃ q, k = q + 1 := ⟨k - 1, by omega⟩
    have z : ∀ s : ByteArray, (s.extract 0 i).size ≤ s.size := fun s => by rw [← L_length, L_take, List.length_take, L_length]; omega
    have za := z a
    have zb := z b
    have zc := z c
    have hn : (nums4 ((L a).take i) ((L b).take i) ((L c).take i)).take i ++ List.replicate (i - i) 0 = nums4 ((L a).take i) ((L b).take i) ((L c).take i) := by
      rw [List.take_of_length_le (by omega), Nat.sub_self]; simp
    simp only [freshetlaw01_SumFour.l0]
    rw [if_neg (by omega), if_pos (by omega), if_pos (by omega)]
    simp only [Int.toNat_natCast]
    rw [of_f _ (by omega)]
    simp only [Option.bind_some]
    rw [if_pos (by omega), of_f _ (by omega)]
    simp only [Option.bind_some]
    rw [if_pos (by omega), of_f _ (by omega), hn, of_f _ (by rw [strOfNums_size, hl]; omega), h3 _ (by omega)]
    simp only [Option.bind_some]
    rw [L_take, L_take, L_take, nums4_text, sums_four _ _ _ (by simp; omega) (by simp; omega), if_pos rfl]
  | succ d ih =>
    intro i hi
    refine Ev.step (fun k => ?_) (ih (i + 1) (by omega))
    simp only [freshetlaw01_SumFour.l0]
    have hlen : (((nums4 ((L a).take m) ((L b).take m) ((L c).take m)).take i ++ List.replicate (m - i) 0).length : Int) = m := by simp [hl]; omega
    rw [if_pos (by omega), if_pos (by omega), if_pos (by omega), if_pos (by omega), if_pos (by omega), if_pos (by rw [hlen]; omega)]
    rw [bt_get a (by omega) (by omega), bt_get b (by omega) (by omega), bt_get c (by omega) (by omega), wrap_id (by omega) (by omega), xor_u8, xor_u8]
    simp only [Int.toNat_natCast]
    have hv : (nums4 ((L a).take m) ((L b).take m) ((L c).take m))[i]? = some (((L a)[i]'(by rw [L_length]; omega) ^^^ (L b)[i]'(by rw [L_length]; omega) ^^^ (L c)[i]'(by rw [L_length]; omega)).toNat : Int) := by
      rw [List.getElem?_eq_getElem (by omega)]
      unfold nums4 three
      simp
    rw [set_fill hl hv, show ((i : Int) + 1) = ((i + 1 : Nat) : Int) by omega]
theorem SumFour : freshetlaw01_SumFour.Pure := by
  intro a b c ha hb hc
  refine Ev.rounds ?_
  obtain ⟨m, hm, h1, h2, h3⟩ : ∃ m : Nat, mn (mn (a.size : Int) (b.size : Int)) (c.size : Int) = m ∧ m ≤ a.size ∧ m ≤ b.size ∧ m ≤ c.size := by
    refine ⟨min (min a.size b.size) c.size, ?_, by omega, by omega, by omega⟩
    unfold mn
    split <;> split <;> omega
  have h := loop4 a b c m h1 h2 h3 ha hb hc m 0 (by omega)
  refine Ev.congr (fun k => ?_) h
  unfold freshetlaw01_SumFour.f
  rw [hm, if_pos (by omega), if_pos (by omega)]
  simp only [Int.toNat_natCast, List.take_zero, List.nil_append, Nat.sub_zero]
  rfl
end Go.Proofs.Ytdlnbddkploeoaa.Pure
