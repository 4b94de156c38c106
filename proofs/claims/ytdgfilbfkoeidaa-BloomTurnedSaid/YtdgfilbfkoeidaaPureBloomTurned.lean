/- The order of the keys changes nothing; a filter of the same width of some of them has no bit that the filter of all has not: for every input. -/
import Derived.Test.YtdgfilbfkoeidaaPBloomF
import Derived.Test.YtdgfilbfkoeidaaPrint4
import Derived.Laws.BitsAllLaws
namespace Go.Proofs.Ytdgfilbfkoeidaa.Pure
open Go.RowKit PLink Txt Print Bloom Go.Proofs.YtdgfilbfkoeidaaW.PrintWords Go.Proofs.YtdgfilbfkoeidaaW.PrintMore
theorem bits_sub {m k : Nat} {a b : List ByteArray} (h : ∀ x ∈ a, x ∈ b) {i : Nat} (hi : i ∈ bitsOf m k a) : i ∈ bitsOf m k b := by
  unfold bitsOf at hi ⊢
  obtain ⟨key, hk, hx⟩ := List.mem_flatMap.1 hi
  exact List.mem_flatMap.2 ⟨key, h _ hk, hx⟩
theorem filter_turned (q : Nat) (l : List ByteArray) : filter q l.reverse = filter q l := by
  unfold filter
  have h1 := width_lo l.length q
  rw [List.length_reverse]
  congr 1
  refine PBloom.setAll_eq (fun i hi => ?_) (fun i hi => ?_) (fun i => ⟨bits_sub (fun x hx => List.mem_reverse.1 hx), bits_sub (fun x hx => List.mem_reverse.2 hx)⟩)
  · have := bits_lt (by omega) hi; omega
  · have := bits_lt (by omega) hi; omega
/-- a byte that has no bit that another one has not -/
theorem less_bits (a b : UInt8) (h : ∀ s, s < 8 → a.toNat.testBit s = true → b.toNat.testBit s = true) : Go.bits .andNot .u8 (a.toNat : Int) (b.toNat : Int) = 0 := by
  rw [u8_andNot_nat _ _ a.toNat_lt b.toNat_lt]
  have hb := b.toNat_lt
  have : a.toNat &&& (255 - b.toNat) = 0 := by
    apply Nat.eq_of_testBit_eq
    intro s
    rw [Nat.testBit_and, Nat.zero_testBit, show 255 - b.toNat = 2 ^ 8 - (b.toNat + 1) by omega, Nat.testBit_two_pow_sub_succ hb]
    by_cases hs : s < 8
    · have := h s hs
      cases ha : a.toNat.testBit s with
      | false => rfl
      | true => rw [this ha]; simp
    · simp [hs]
  rw [this]
  rfl
theorem sub_byte (q : Nat) (l m : List ByteArray) (hl : m.length = l.length) (h : ∀ x ∈ m, x ∈ l) (i : Nat) : Go.bits .andNot .u8 (bt (B (filter q m)) ((i + 1 : Nat) : Int)) (bt (B (filter q l)) ((i + 1 : Nat) : Int)) = 0 := by
  rw [bt_getD, bt_getD, Int.toNat_natCast]
  refine less_bits _ _ (fun s hs => ?_)
  have e1 := bit_filter q m (8 * i + s)
  have e2 := bit_filter q l (8 * i + s)
  rw [hl] at e1
  unfold PBloom.bitOf at e1 e2
  rw [show (8 * i + s) / 8 = i by omega, show (8 * i + s) % 8 = s by omega] at e1 e2
  have g : ∀ F : List UInt8, F.getD (i + 1) 0 = (F.drop 1).getD i 0 := fun F => by rw [List.getD_eq_getElem?_getD, List.getD_eq_getElem?_getD, List.getElem?_drop, Nat.add_comm]
  rw [g, g, e1, e2]
  intro hx
  exact decide_eq_true (bits_sub h (of_decide_eq_true hx))
theorem turned_l1 (q : Nat) (hq : q ≤ 32) (l m : List ByteArray) (hn : l.length ≤ 400) (hl : m.length = l.length) (h : ∀ x ∈ m, x ∈ l) (d : Nat) : ∀ i : Nat, i + d = width l.length q →
    Ev (fun k => freshetlaw10_BloomTurned.l1 k (B (filter q l)) (B (filter q m)) ((i + 1 : Nat) : Int)) true := by
  have s1 := filter_size q l
  have s2 := filter_size q m
  have w1 := width_lo l.length q
  have w2 := width_hi l.length q hn hq
  rw [hl] at s2
  induction d with
  | zero =>
    intro i hi
    refine Ev.step (f := fun _ => some true) (fun k => ?_) (Ev.now _)
    have e : bt (B (filter q m)) 0 = bt (B (filter q l)) 0 := by
      have a := bt_getD (B (filter q m)) 0
      have b := bt_getD (B (filter q l)) 0
      simp only [Int.toNat_zero] at a b
      rw [a, b, filter_first q m hq, filter_first q l hq]
    rw [freshetlaw10_BloomTurned.l1, if_neg (by omega), if_pos (by omega), if_pos (by omega), if_pos e, awake_then]
  | succ d ih =>
    intro i hi
    refine Ev.step (f := fun k => freshetlaw10_BloomTurned.l1 k (B (filter q l)) (B (filter q m)) ((i + 1 + 1 : Nat) : Int)) (fun k => ?_) (ih (i + 1) (by omega))
    rw [freshetlaw10_BloomTurned.l1, if_pos (by omega), if_pos (by omega), if_pos (by omega), if_pos (sub_byte q l m hl h i), wrap_id (by omega) (by omega)]
    rfl
theorem turned_l0 (q : Nat) (h1 : 1 ≤ q) (hq : q ≤ 32) (l : List ByteArray) (hn : l.length ≤ 400) (hsz : ∀ s ∈ l, s.size ≤ 140737488351232) (c : Nat) (hc : c < l.length) (d : Nat) : ∀ (i : Nat) (x : List ByteArray), i + d = l.length → x.length = i → (∀ s ∈ x, s ∈ l) →
    Ev (fun k => freshetlaw10_BloomTurned.l0 k l (q : Int) (l.length : Int) (c : Int) (l.reverse.take i) x (i : Int)) true := by
  induction d with
  | zero =>
    intro i x hi hx hm
    have e1 : l.reverse.take i = l.reverse := List.take_of_length_le (by rw [List.length_reverse]; omega)
    rw [e1]
    have f1 := make_f l hn hsz (q : Int) (by omega) (by omega)
    have f2 := make_f l.reverse (by rw [List.length_reverse]; omega) (fun s hs => hsz s (List.mem_reverse.1 hs)) (q : Int) (by omega) (by omega)
    have f3 := make_f x (by omega) (fun s hs => hsz s (hm s hs)) (q : Int) (by omega) (by omega)
    rw [Int.toNat_natCast] at f1 f2 f3
    rw [filter_turned] at f2
    have s1 := filter_size q l
    have s2 := filter_size q x
    have w1 := width_lo l.length q
    rw [show x.length = l.length by omega] at s2
    refine Ev.step (f := fun k => freshetlaw10_BloomTurned.j3 k (B (filter q l)) (B (filter q x)) false) (fun k => ?_) ?_
    · rw [freshetlaw10_BloomTurned.l0, if_neg (by omega), f1, f2, f3]
      simp only [Option.bind_some, if_true]
      rw [if_pos (by omega), beq_eq_false_iff_ne.2 (by omega)]
    · refine Ev.step (f := fun k => freshetlaw10_BloomTurned.l1 k (B (filter q l)) (B (filter q x)) ((0 + 1 : Nat) : Int)) (fun k => ?_) (turned_l1 q hq l x hn (by omega) hm _ 0 (Nat.zero_add _))
      rw [freshetlaw10_BloomTurned.j3, if_neg (by simp)]
      rfl
  | succ d ih =>
    intro i x hi hx hm
    have hlt : i < l.length := by omega
    have e1 : wrap64 ((wrap64 ((l.length : Int) - 1)) - (i : Int)) = ((l.length - 1 - i : Nat) : Int) := by
      rw [wrap_id (x := (l.length : Int) - 1) (by omega) (by omega), wrap_id (by omega) (by omega)]; omega
    have e2 : l.reverse.take (i + 1) = l.reverse.take i ++ [l[l.length - 1 - i]] := by
      rw [List.take_succ_eq_append_getElem (by rw [List.length_reverse]; exact hlt), List.getElem_reverse]
    have e3 : wrap64 ((i : Int) + 1) = ((i + 1 : Nat) : Int) := wrap_id (x := ((i + 1 : Nat) : Int)) (by omega) (by omega)
    have hl1 : (l.reverse.take i).length ≤ 400 := by have := List.length_take_le i l.reverse; omega
    by_cases hic : i ≤ c
    · have hr := ih (i + 1) (x ++ [l[i]]) (by omega) (by simp; omega) (fun s hs => by
        rcases List.mem_append.1 hs with h | h
        · exact hm s h
        · rw [List.mem_singleton.1 h]; exact List.getElem_mem hlt)
      refine Ev.step (fun k => ?_) hr
      rw [freshetlaw10_BloomTurned.l0, if_pos (by omega), e1, if_pos (by omega), if_pos (by omega), if_pos (by omega), rdOf_key l _ (by omega), ← e2]
      simp only [Option.bind_some]
      rw [if_pos (by omega), if_pos (by omega), if_pos (by omega), if_pos (by omega), rdOf_key l _ (by omega), e3]
    · have hr := ih (i + 1) (x ++ [l[c]]) (by omega) (by simp; omega) (fun s hs => by
        rcases List.mem_append.1 hs with h | h
        · exact hm s h
        · rw [List.mem_singleton.1 h]; exact List.getElem_mem hc)
      refine Ev.step (fun k => ?_) hr
      rw [freshetlaw10_BloomTurned.l0, if_pos (by omega), e1, if_pos (by omega), if_pos (by omega), if_pos (by omega), rdOf_key l _ (by omega), ← e2]
      simp only [Option.bind_some]
      rw [if_neg (by omega), if_pos (by omega), if_pos (by omega), if_pos (by omega), rdOf_key l _ (by omega), e3]
theorem BloomTurned (l : List ByteArray) (hsz : ∀ s ∈ l, s.size ≤ 140737488351232) (a1 a2 : Int) : ∃ k, freshetlaw10_BloomTurned.f k l a1 a2 = some true := by
  refine Ev.rounds ?_
  unfold freshetlaw10_BloomTurned.f
  have out : Ev (fun k => freshetlaw10_BloomTurned.j0 k l a1 a2 (l.length : Int) true) true := by
    refine Ev.step (f := fun _ => some true) (fun k => ?_) (Ev.now _)
    rw [freshetlaw10_BloomTurned.j0, if_pos rfl, awake_then]
  by_cases h1 : (l.length : Int) < 1
  · simp only [if_pos h1]; exact out
  · simp only [if_neg h1]
    by_cases h2 : (l.length : Int) > 400
    · simp only [if_pos h2]; exact out
    · simp only [if_neg h2]
      by_cases h3 : a1 < 1
      · simp only [if_pos h3]; exact out
      · simp only [if_neg h3]
        by_cases h4 : a1 > 32
        · rw [decide_eq_true h4]; exact out
        · rw [decide_eq_false h4]
          obtain ⟨q, rfl⟩ : ∃ q : Nat, a1 = q := ⟨a1.toNat, by omega⟩
          have main : ∀ c : Int, 0 ≤ c → c < (l.length : Int) → Ev (fun k => freshetlaw10_BloomTurned.j1 k l (q : Int) (l.length : Int) c) true := by
            intro c c0 c1
            obtain ⟨c, rfl⟩ : ∃ n : Nat, c = n := ⟨c.toNat, by omega⟩
            refine Ev.step (f := fun k => freshetlaw10_BloomTurned.l0 k l (q : Int) (l.length : Int) (c : Int) (l.reverse.take 0) [] ((0 : Nat) : Int)) (fun k => ?_) (turned_l0 q (by omega) (by omega) l (by omega) hsz c (by omega) l.length 0 [] (by omega) rfl (fun _ h => by cases h))
            rw [freshetlaw10_BloomTurned.j1]
            rfl
          have b1 := Int.tmod_lt_of_pos a2 (show 0 < (l.length : Int) by omega)
          have b2 : -(l.length : Int) < Int.tmod a2 (l.length : Int) := by
            have := Int.tmod_lt_of_pos (-a2) (show 0 < (l.length : Int) by omega)
            rw [Int.neg_tmod] at this
            omega
          by_cases h5 : Int.tmod a2 (l.length : Int) < 0
          · refine Ev.step (fun k => ?_) (main (Int.tmod a2 (l.length : Int) + (l.length : Int)) (by omega) (by omega))
            rw [freshetlaw10_BloomTurned.j0, if_neg (by simp), if_neg (by omega), if_pos h5, wrap_id (by omega) (by omega)]
          · refine Ev.step (fun k => ?_) (main (Int.tmod a2 (l.length : Int)) (by omega) (by omega))
            rw [freshetlaw10_BloomTurned.j0, if_neg (by simp), if_neg (by omega), if_neg h5]
end Go.Proofs.Ytdgfilbfkoeidaa.Pure
