/- Of frames one behind the other, cut anywhere, those that are whole are told: for every input. -/
import Derived.Test.YtfibccfbcehheaaRFrames
import Derived.Test.YtfibccfbcehheaaFCut
import Derived.Test.YtfibccfbcehheaaPrint9
namespace Go.Proofs.Ytfibccfbcehheaa.Pure
open Go.RowKit Txt Print Go.Proofs.YtfibccfbcehheaaW.PrintWords
abbrev LL (l : List ByteArray) : List (List UInt8) := l.map L
theorem LL_take (l : List ByteArray) (i : Nat) : LL (l.take i) = (LL l).take i := List.map_take ..
theorem back (l : List (List UInt8)) : LL (l.map B) = l := by
  unfold LL
  rw [List.map_map]
  exact List.map_id' _
theorem take_back (l : List ByteArray) (i : Nat) : ((LL l).take i).map B = l.take i := by
  rw [← LL_take]
  unfold LL
  rw [List.map_map]
  have : (B ∘ L) = id := funext fun s => B_L s
  rw [this, List.map_id]
theorem put_small {p : List UInt8} (h : p.length ≤ 300) : (PFrame.put p).1.length ≤ 314 ∧ (PFrame.put p).2 = 0 := by
  rw [PFrame.put_ok (by omega)]
  have h1 := PCode.putUint_length_ten (n := p.length) (by omega)
  have h2 : (PFrame.mark (PCode.putField p)).length = 4 := PFrame.seal_length _
  refine ⟨?_, rfl⟩
  show (PCode.putField p ++ PFrame.mark (PCode.putField p)).length ≤ 314
  rw [List.length_append, h2]
  unfold PCode.putField
  rw [List.length_append]
  omega
theorem size_put {p : List UInt8} (h : p.length ≤ 65536) : sizeZ (p.length : Int) = ((PFrame.put p).1.length : Int) := by
  unfold sizeZ
  rw [if_pos (by omega), PFrame.put_ok h]
  have h2 : (PFrame.mark (PCode.putField p)).length = 4 := PFrame.seal_length _
  show _ = ((PCode.putField p ++ PFrame.mark (PCode.putField p)).length : Int)
  rw [List.length_append, h2]
  unfold PCode.putField
  rw [List.length_append, Int.toNat_natCast]
  omega
theorem frames_small : ∀ l : List (List UInt8), (∀ p ∈ l, p.length ≤ 300) → (FSeq.frames l).length ≤ 314 * l.length
  | [], _ => Nat.zero_le _
  | p :: l, h => by
    have h1 := (put_small (h p (List.mem_cons_self ..))).1
    have h2 := frames_small l (fun q hq => h q (List.mem_cons_of_mem _ hq))
    show ((PFrame.put p).1 ++ FSeq.frames l).length ≤ _
    rw [List.length_append, List.length_cons]
    omega
theorem rd_at (l : List ByteArray) (i : Nat) (h : i < l.length) : rdOf ByteArray.empty l (i : Int) = l[i] := by
  unfold rdOf; rw [Int.toNat_natCast, List.getD_eq_getElem?_getD, List.getElem?_eq_getElem h]; rfl
theorem cut_j4 (l : List ByteArray) (hl : l.length ≤ 20) (hp : ∀ p ∈ LL l, p.length ≤ 300) (K : Nat) (hK : K ≤ (FSeq.frames (LL l)).length) (w e : Nat) (hw : FSeq.whole (LL l) K = (w, e)) :
    Ev (fun k => freshetlaw04_FrameCut.j4 k l (B (FSeq.frames (LL l))) (K : Int) (w : Int) (e : Int)) true := by
  have hs := frames_small (LL l) hp
  have hll : (LL l).length = l.length := List.length_map ..
  have hle := FSeq.whole_le (LL l) K
  rw [hw, hll] at hle
  simp only at hle
  have hc := FSeq.all_cut (LL l) K (fun p h => by have := hp p h; omega) hK
  rw [hw] at hc
  simp only at hc
  have hx : L ((B (FSeq.frames (LL l))).extract 0 K) = (FSeq.frames (LL l)).take K := L_take _ _
  have hsz : (B (FSeq.frames (LL l))).size = (FSeq.frames (LL l)).length := size_B _
  have h3 := frame_all_ev ((B (FSeq.frames (LL l))).extract 0 K) (by rw [ByteArray.size_extract, hsz]; omega)
  rw [hx, hc] at h3
  refine Ev.step (fun k => by
    simp only [freshetlaw04_FrameCut.j4]
    rw [if_pos (by omega), if_pos (by rw [hsz]; omega), Int.toNat_natCast]) ?_
  refine Ev.bind h3 ?_
  have hq : ((LL l).take w).map B = l.take w := take_back l w
  have h1 := ref_same (((LL l).take w).map B) (l.take w) (by rw [List.length_map, List.length_take]; omega)
  rw [decide_eq_true hq] at h1
  by_cases c : e = K
  · refine Ev.congr (fun k => if_pos (by omega)) ?_
    refine Ev.congr (fun k => if_pos (by omega)) ?_
    refine Ev.congr (fun k => if_pos (by omega)) ?_
    refine Ev.bind (a := true) (by rw [Int.toNat_natCast]; exact h1) ?_
    refine Ev.congr (fun k => if_pos rfl) ?_
    refine Ev.congr (fun k => if_pos rfl) ?_
    refine Ev.congr (fun k => if_pos (by show ((if e = K then 0 else 6 : Nat) : Int) = 0; rw [if_pos c]; rfl)) ?_
    exact Ev.bind awake04 (Ev.now _)
  · refine Ev.congr (fun k => if_neg (by omega)) ?_
    refine Ev.congr (fun k => if_pos (by omega)) ?_
    refine Ev.congr (fun k => if_pos (by omega)) ?_
    refine Ev.bind (a := true) (by rw [Int.toNat_natCast]; exact h1) ?_
    refine Ev.congr (fun k => if_pos rfl) ?_
    refine Ev.congr (fun k => if_pos rfl) ?_
    refine Ev.congr (fun k => if_pos (by show ((if e = K then 0 else 6 : Nat) : Int) = 6; rw [if_neg c]; rfl)) ?_
    exact Ev.bind awake04 (Ev.now _)
theorem wrap_nats (a b : Nat) (h : a + b ≤ 10000) : wrap64 ((a : Int) + (b : Int)) = ((a + b : Nat) : Int) := by
  rw [wrap_id (by omega) (by omega)]; omega
theorem cut_l1 (l : List ByteArray) (hl : l.length ≤ 20) (hp : ∀ p ∈ LL l, p.length ≤ 300) (K : Nat) (hK : K ≤ (FSeq.frames (LL l)).length) (d : Nat) : ∀ w e : Nat, w + d = l.length → e ≤ K →
    FSeq.whole (LL l) K = (w + (FSeq.whole ((LL l).drop w) (K - e)).1, e + (FSeq.whole ((LL l).drop w) (K - e)).2) →
    Ev (fun k => freshetlaw04_FrameCut.l1 k l (B (FSeq.frames (LL l))) (K : Int) (w : Int) (e : Int)) true := by
  have hs := frames_small (LL l) hp
  have hll : (LL l).length = l.length := List.length_map ..
  induction d with
  | zero =>
    intro w e hw he h
    rw [List.drop_of_length_le (by omega)] at h
    refine Ev.step (fun k => by
      simp only [freshetlaw04_FrameCut.l1]
      rw [if_neg (by omega)]) ?_
    exact cut_j4 l hl hp K hK w e h
  | succ d ih =>
    intro w e hw he h
    have hlt : w < l.length := by omega
    have hlt2 : w < (LL l).length := by omega
    have hg : (LL l)[w] = L l[w] := List.getElem_map ..
    have hpw := hp (LL l)[w] (List.getElem_mem hlt2)
    rw [hg] at hpw
    have hsw := (put_small hpw).1
    have hfs := frame_size ((l[w].size : Nat) : Int)
    have hsz := size_put (p := L l[w]) (by omega)
    rw [L_length] at hsz
    rw [hsz] at hfs
    rw [List.drop_eq_getElem_cons hlt2, hg] at h
    rw [FSeq.whole_cons] at h
    refine Ev.step (fun k => by
      simp only [freshetlaw04_FrameCut.l1]
      rw [if_pos (by omega), if_pos (by omega), rd_at l w hlt]) ?_
    refine Ev.bind hfs ?_
    have b1 : e + (PFrame.put (L l[w])).1.length ≤ 10000 := by omega
    have b2 : w + 1 ≤ 10000 := by omega
    have ew := wrap_nats e (PFrame.put (L l[w])).1.length b1
    have ew1 : wrap64 ((w : Int) + 1) = ((w + 1 : Nat) : Int) := wrap_nats w 1 b2
    by_cases c : (PFrame.put (L l[w])).1.length ≤ K - e
    · rw [if_pos c] at h
      have hc1 : ((e + (PFrame.put (L l[w])).1.length : Nat) : Int) ≤ (K : Int) := Int.ofNat_le.2 (by clear ew ew1; omega)
      refine Ev.congr (fun k => if_pos (by rw [ew]; exact hc1)) ?_
      refine Ev.bind hfs ?_
      rw [ew, ew1]
      clear ew ew1 hc1
      refine ih (w + 1) (e + (PFrame.put (L l[w])).1.length) (by omega) (by omega) ?_
      rw [h, show K - e - (PFrame.put (L l[w])).1.length = K - (e + (PFrame.put (L l[w])).1.length) by omega]
      refine Prod.ext ?_ ?_
      · show w + (1 + _) = w + 1 + _
        omega
      · show e + (_ + _) = e + _ + _
        omega
    · rw [if_neg c] at h
      have hc1 : ¬ ((e + (PFrame.put (L l[w])).1.length : Nat) : Int) ≤ (K : Int) := fun h2 => c (by have := Int.ofNat_le.1 h2; clear ew ew1 h2; omega)
      refine Ev.congr (fun k => if_neg (by rw [ew]; exact hc1)) ?_
      exact cut_j4 l hl hp K hK w e h
theorem cut_j1 (l : List ByteArray) (hl : l.length ≤ 20) (hp : ∀ p ∈ LL l, p.length ≤ 300) (a : Int) (b : Bool) (hb : b = true ∨ (0 ≤ a ∧ a ≤ ((FSeq.frames (LL l)).length : Int))) :
    Ev (fun k => freshetlaw04_FrameCut.j1 k l (B (FSeq.frames (LL l))) a b) true := by
  have hsz : (B (FSeq.frames (LL l))).size = (FSeq.frames (LL l)).length := size_B _
  have go : ∀ K : Nat, K ≤ (FSeq.frames (LL l)).length → Ev (fun k => freshetlaw04_FrameCut.j2 k l (B (FSeq.frames (LL l))) (K : Int)) true := by
    intro K hK
    refine Ev.step (fun k => by simp only [freshetlaw04_FrameCut.j2]; rfl) ?_
    exact cut_l1 l hl hp K hK l.length 0 0 (by omega) (Nat.zero_le _) (by simp)
  cases b with
  | true =>
    refine Ev.step (fun k => by simp only [freshetlaw04_FrameCut.j1, if_true]; rfl) ?_
    rw [hsz]
    exact go _ (Nat.le_refl _)
  | false =>
    have h := hb.resolve_left (by simp)
    obtain ⟨K, rfl⟩ := Int.eq_ofNat_of_zero_le h.1
    refine Ev.step (fun k => by simp only [freshetlaw04_FrameCut.j1]; rw [if_neg (by simp)]) ?_
    exact go K (by omega)
theorem cut_l0 (l : List ByteArray) (hl : l.length ≤ 20) (a : Int) (d : Nat) : ∀ i : Nat, i + d = l.length → (∀ p ∈ LL (l.take i), p.length ≤ 300) →
    Ev (fun k => freshetlaw04_FrameCut.l0 k l a (B (FSeq.frames (LL (l.take i)))) (i : Int)) true := by
  induction d with
  | zero =>
    intro i hi hp
    rw [List.take_of_length_le (by omega)] at hp ⊢
    have hsz : (B (FSeq.frames (LL l))).size = (FSeq.frames (LL l)).length := size_B _
    refine Ev.step (fun k => by
      simp only [freshetlaw04_FrameCut.l0]
      rw [if_neg (by omega)]) ?_
    by_cases c : a < 0
    · refine Ev.congr (fun k => if_pos c) ?_
      exact cut_j1 l hl hp a true (.inl rfl)
    · refine Ev.congr (fun k => if_neg c) ?_
      refine cut_j1 l hl hp a _ ?_
      rw [hsz]
      by_cases c2 : a > ((FSeq.frames (LL l)).length : Int)
      · exact .inl (decide_eq_true c2)
      · exact .inr ⟨by omega, by omega⟩
  | succ d ih =>
    intro i hi hp
    have hlt : i < l.length := by omega
    refine Ev.step (fun k => by
      simp only [freshetlaw04_FrameCut.l0]
      rw [if_pos (by omega), if_pos (by omega), rd_at l i hlt]) ?_
    by_cases c : (l[i].size : Int) > 300
    · refine Ev.congr (fun k => if_pos c) ?_
      exact Ev.bind awake04 (Ev.now _)
    · refine Ev.congr (fun k => if_neg c) ?_
      refine Ev.bind (frame_put l[i] (by omega)) ?_
      have hpi : (L l[i]).length ≤ 300 := by rw [L_length]; omega
      have hs := put_small hpi
      have hf := frames_small (LL (l.take i)) hp
      have hlen : (LL (l.take i)).length ≤ 20 := by rw [show (LL (l.take i)).length = (l.take i).length from List.length_map .., List.length_take]; omega
      refine Ev.congr (fun k => if_pos (by show ((PFrame.put (L l[i])).2 : Int) = 0; rw [hs.2]; rfl)) ?_
      refine Ev.congr (fun k => if_pos (by show (B (FSeq.frames (LL (l.take i)))).size + (B (PFrame.put (L l[i])).1).size ≤ _; rw [size_B, size_B]; omega)) ?_
      have e1 : wrap64 ((i : Int) + 1) = ((i + 1 : Nat) : Int) := by
        rw [wrap_id (by omega) (by omega)]; omega
      have e2 : LL (l.take (i + 1)) = LL (l.take i) ++ [L l[i]] := by
        rw [List.take_succ_eq_append_getElem hlt]
        unfold LL
        rw [List.map_append]
        rfl
      have e3 : B (FSeq.frames (LL (l.take i))) ++ B (PFrame.put (L l[i])).1 = B (FSeq.frames (LL (l.take (i + 1)))) := by
        apply L_inj
        rw [L_append, e2, FSeq.frames_append]
        show _ = FSeq.frames _ ++ ((PFrame.put (L l[i])).1 ++ [])
        rw [List.append_nil]
      rw [e1]
      refine Ev.congr (fun k => congrArg (fun s => freshetlaw04_FrameCut.l0 k l a s ((i + 1 : Nat) : Int)) e3) ?_
      refine ih (i + 1) (by omega) ?_
      rw [e2]
      intro p hpm
      rcases List.mem_append.1 hpm with h | h
      · exact hp p h
      · obtain rfl : p = L l[i] := by simpa using h
        exact hpi
theorem FrameCut (l0 : List ByteArray) (a1 : Int) : ∃ k, freshetlaw04_FrameCut.f k l0 a1 = some true := by
  have h : Ev (fun k => freshetlaw04_FrameCut.f k l0 a1) true := by
    unfold freshetlaw04_FrameCut.f
    by_cases c : (l0.length : Int) > 20
    · refine Ev.congr (fun k => if_pos c) ?_
      exact Ev.bind awake04 (Ev.now _)
    · refine Ev.congr (fun k => if_neg c) ?_
      exact cut_l0 l0 (by omega) a1 l0.length 0 (by omega) (fun p h => by simp [LL] at h)
  exact h.rounds
end Go.Proofs.Ytfibccfbcehheaa.Pure
