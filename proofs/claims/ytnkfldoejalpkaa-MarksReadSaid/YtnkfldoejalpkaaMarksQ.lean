/- The reference's reading of marks comes to the plain one. -/
import Derived.Test.YtnkfldoejalpkaaMarksH
import Derived.Test.YtnkfldoejalpkaaPrint4
namespace Go.Proofs.Ytnkfldoejalpkaa.Marks
open Go.RowKit Aid PMarks Txt Print Go.Proofs.YtnkfldoejalpkaaW.PrintWords Go.Proofs.YtnkfldoejalpkaaW.PrintMore
/-- what the reference hands back -/
def out5 : Option St → Int × Int × List Int × List Bool × Bool
  | none => (0, 0, [], [], false)
  | some st => (st.bound, st.now, st.l.map (·.1), st.l.map (·.2), true)
theorem rord (x : ByteArray) (h : 8 ≤ x.size) : Ev (fun k => freshetref02_Ord.f k x) (PCode.ord (L x), 0) := by
  have := ref_ord x
  unfold ordZ at this
  rw [if_neg (by omega)] at this
  exact this
theorem wplus8 (P : Nat) (h : P ≤ 140737488355328) : wrap64 ((P : Int) + 8) = ((P + 8 : Nat) : Int) := wrap_id (x := ((P + 8 : Nat) : Int)) (by omega) (by omega)
theorem wplus9 (P Q : Nat) (h : P ≤ 140737488355328) (hq : Q = P + 9) : wrap64 ((P : Int) + 9) = (Q : Int) := by
  subst hq
  exact wrap_id (x := ((P + 9 : Nat) : Int)) (by omega) (by omega)
theorem wplus1 (P : Nat) (h : P ≤ 140737488355328) : wrap64 ((P : Int) + 1) = ((P + 1 : Nat) : Int) := wrap_id (x := ((P + 1 : Nat) : Int)) (by omega) (by omega)
theorem wplus (P Q : Nat) (h : P + Q ≤ 9223372036854775807) : wrap64 ((P : Int) + (Q : Int)) = ((P + Q : Nat) : Int) := wrap_id (x := ((P + Q : Nat) : Int)) (by omega) (by omega)
theorem wself (P : Nat) (h : P ≤ 9223372036854775807) : wrap64 (P : Int) = (P : Int) := wrap_id (by omega) (by omega)
theorem wnine (P : Nat) (h : P ≤ 1000) : wrap64 (9 * (P : Int)) = ((9 * P : Nat) : Int) := by rw [wrap_id (by omega) (by omega)]; omega
theorem rread_end (nw bd : Int) (l : List Src) : (if nw < (-1125899906842624) then (some (0, 0, ([] : List Int), ([] : List Bool), false)) else (if nw > 1125899906842624 then (some (0, 0, ([] : List Int), ([] : List Bool), false)) else (if (least l).isSome = true then (if (least l).getD 0 > nw then (some (0, 0, ([] : List Int), ([] : List Bool), false)) else (some (bd, nw, l.map (·.1), l.map (·.2), true))) else (some (bd, nw, l.map (·.1), l.map (·.2), true)))))
    = some (out5 (if -1125899906842624 ≤ nw ∧ nw ≤ 1125899906842624 ∧ mxo nw (least l) = nw then some ⟨bd, l, nw⟩ else none)) := by
  by_cases m1 : nw < -1125899906842624
  · have c : ¬ (-1125899906842624 ≤ nw ∧ nw ≤ 1125899906842624 ∧ mxo nw (least l) = nw) := fun h => by omega
    rw [if_pos m1, if_neg c]
    rfl
  · rw [if_neg m1]
    by_cases m2 : nw > 1125899906842624
    · have c : ¬ (-1125899906842624 ≤ nw ∧ nw ≤ 1125899906842624 ∧ mxo nw (least l) = nw) := fun h => by omega
      rw [if_pos m2, if_neg c]
      rfl
    · rw [if_neg m2]
      cases ho : least l with
      | none =>
        have c : (-1125899906842624 ≤ nw ∧ nw ≤ 1125899906842624 ∧ mxo nw none = nw) := ⟨by omega, by omega, rfl⟩
        rw [if_pos c, if_neg (by simp)]
        rfl
      | some y =>
        rw [Option.isSome_some, if_pos rfl, Option.getD_some]
        by_cases m3 : y > nw
        · have c : ¬ (-1125899906842624 ≤ nw ∧ nw ≤ 1125899906842624 ∧ mxo nw (some y) = nw) := fun h => by
            have := h.2.2
            simp only [mxo] at this
            rw [if_pos (by omega)] at this
            omega
          rw [if_pos m3, if_neg c]
          rfl
        · have c : (-1125899906842624 ≤ nw ∧ nw ≤ 1125899906842624 ∧ mxo nw (some y) = nw) := ⟨by omega, by omega, by simp only [mxo]; rw [if_neg (by omega)]⟩
          rw [if_neg m3, if_pos c]
          rfl
theorem rread_one (k : Nat) (s : ByteArray) (n p j : Nat) (bd nw : Int) (l : List Src) (x : List UInt8) (z : Int × Int) :
    (if (((x.getD 8 0).toNat : Nat) : Int) > 1 then (some (0, 0, ([] : List Int), ([] : List Bool), false)) else (if z.1 < (-1126999418470401) then (some (0, 0, ([] : List Int), ([] : List Bool), false)) else (if z.1 > 1125899906842624 then (some (0, 0, ([] : List Int), ([] : List Bool), false)) else (freshetref23_Read.l0 k s (n : Int) (p : Int) (j : Int) bd nw (l.map (·.1) ++ [z.1]) (l.map (·.2) ++ [(((x.getD 8 0).toNat : Nat) : Int) == 1])))))
    = if (x.getD 8 0).toNat ≤ 1 ∧ -1126999418470401 ≤ z.1 ∧ z.1 ≤ 1125899906842624 then freshetref23_Read.l0 k s (n : Int) (p : Int) (j : Int) bd nw (l.map (·.1) ++ [z.1]) (l.map (·.2) ++ [(((x.getD 8 0).toNat : Nat) : Int) == 1]) else some (out5 none) := by
  by_cases m1 : (((x.getD 8 0).toNat : Nat) : Int) > 1
  · rw [if_pos m1, if_neg (fun h => by omega)]
    rfl
  · rw [if_neg m1]
    by_cases m2 : z.1 < -1126999418470401
    · rw [if_pos m2, if_neg (fun h => by omega)]
      rfl
    · rw [if_neg m2]
      by_cases m3 : z.1 > 1125899906842624
      · rw [if_pos m3, if_neg (fun h => by omega)]
        rfl
      · rw [if_neg m3, if_pos ⟨by omega, by omega, by omega⟩]
theorem rread_l (s : ByteArray) (hs : s.size ≤ 140737488351232) (p n : Nat) (bd : Int) (hp : p + 8 + 9 * n = s.size) (hn : n ≤ 16) (d : Nat) : ∀ j : Nat, j + d = n → (List.range j).all (fun k => ok1 (((L s).drop p).drop (8 + 9 * k))) = true →
    Ev (fun k => freshetref23_Read.l0 k s (n : Int) ((p + 8 + 9 * j : Nat) : Int) (j : Int) bd (PCode.ord ((L s).drop p)) (((srcsAt ((L s).drop p) n).take j).map (·.1)) (((srcsAt ((L s).drop p) n).take j).map (·.2))) (out5 (readAt ((L s).drop p) n bd)) := by
  induction d with
  | zero =>
    intro j hj hall
    obtain rfl : j = n := by omega
    rw [List.take_of_length_le (by rw [srcsAt_len]; omega)]
    have hl := ref_least_l bd (PCode.ord ((L s).drop p)) (srcsAt ((L s).drop p) j) (by rw [srcsAt_len]; omega) j 0 (by rw [srcsAt_len]; omega)
    have hl2 : Ev (fun k => freshetref23_Least.f k bd (PCode.ord ((L s).drop p)) ((srcsAt ((L s).drop p) j).map (·.1)) ((srcsAt ((L s).drop p) j).map (·.2))) ((least (srcsAt ((L s).drop p) j)).getD 0, (least (srcsAt ((L s).drop p) j)).isSome) := hl
    have hra : readAt ((L s).drop p) j bd = if -1125899906842624 ≤ PCode.ord ((L s).drop p) ∧ PCode.ord ((L s).drop p) ≤ 1125899906842624 ∧ mxo (PCode.ord ((L s).drop p)) (least (srcsAt ((L s).drop p) j)) = PCode.ord ((L s).drop p) then some ⟨bd, srcsAt ((L s).drop p) j, PCode.ord ((L s).drop p)⟩ else none := by
      unfold readAt
      by_cases c : -1125899906842624 ≤ PCode.ord ((L s).drop p) ∧ PCode.ord ((L s).drop p) ≤ 1125899906842624 ∧ mxo (PCode.ord ((L s).drop p)) (least (srcsAt ((L s).drop p) j)) = PCode.ord ((L s).drop p)
      · rw [if_pos ⟨hall, c⟩, if_pos c]
      · rw [if_neg (fun h => c h.2), if_neg c]
    rw [hra]
    generalize PCode.ord ((L s).drop p) = nw at hl2 ⊢
    generalize srcsAt ((L s).drop p) j = l at hl2 ⊢
    refine Ev.step (f := fun k => (freshetref23_Least.f k bd nw (l.map (·.1)) (l.map (·.2))).bind fun bt131 => (if nw < (-1125899906842624) then (some (0, 0, ([] : List Int), ([] : List Bool), false)) else (if nw > 1125899906842624 then (some (0, 0, ([] : List Int), ([] : List Bool), false)) else (if bt131.2 = true then (if bt131.1 > nw then (some (0, 0, ([] : List Int), ([] : List Bool), false)) else (some (bd, nw, l.map (·.1), l.map (·.2), true))) else (some (bd, nw, l.map (·.1), l.map (·.2), true)))))) (fun k => ?_) (Ev.bind hl2 ?_)
    · rw [freshetref23_Read.l0, wself j (by omega), if_neg (by omega)]
    · dsimp only
      exact Ev.congr (fun _ => rread_end nw bd l) (Ev.now _)
  | succ d ih =>
    intro j hj hall
    have hlt : j < n := by omega
    have hx : L (s.extract (p + 8 + 9 * j) s.size) = ((L s).drop p).drop (8 + 9 * j) := by rw [L_drop, List.drop_drop, Nat.add_assoc]
    have hxs : (s.extract (p + 8 + 9 * j) s.size).size = 9 * (n - j) := by rw [ByteArray.size_extract]; omega
    have ho := rord (s.extract (p + 8 + 9 * j) s.size) (by omega)
    rw [hx] at ho
    have hb : bt s ((p + 8 + 9 * j + 8 : Nat) : Int) = (((((L s).drop p).drop (8 + 9 * j)).getD 8 0).toNat : Int) := by
      rw [bt_getD, Int.toNat_natCast, List.getD_eq_getElem?_getD, List.getD_eq_getElem?_getD, List.getElem?_drop, List.getElem?_drop]
      congr 4
      omega
    have hlen : ((srcsAt ((L s).drop p) n).take j).length = j := by rw [List.length_take, srcsAt_len]; omega
    have htk : (srcsAt ((L s).drop p) n).take (j + 1) = (srcsAt ((L s).drop p) n).take j ++ [src1 (((L s).drop p).drop (8 + 9 * j))] := by
      rw [List.take_succ_eq_append_getElem (by rw [srcsAt_len]; exact hlt)]
      congr 2
      unfold srcsAt
      simp
    have hn := ih (j + 1) (by omega)
    rw [htk, all_more, hall, Bool.true_and] at hn
    have hbad := readAt_bad ((L s).drop p) n bd j hlt
    generalize ((L s).drop p).drop (8 + 9 * j) = x at ho hb hn hbad
    generalize (srcsAt ((L s).drop p) n).take j = l at hn hlen ⊢
    have c256 := (x.getD 8 0).toNat_lt
    have hstep : ∀ k, freshetref23_Read.l0 (k + 1) s (n : Int) ((p + 8 + 9 * j : Nat) : Int) (j : Int) bd (PCode.ord ((L s).drop p)) (l.map (·.1)) (l.map (·.2)) = (freshetref02_Ord.f k (s.extract (p + 8 + 9 * j) s.size)).bind fun z => if (x.getD 8 0).toNat ≤ 1 ∧ -1126999418470401 ≤ z.1 ∧ z.1 ≤ 1125899906842624 then freshetref23_Read.l0 k s (n : Int) ((p + 8 + 9 * (j + 1) : Nat) : Int) ((j + 1 : Nat) : Int) bd (PCode.ord ((L s).drop p)) (l.map (·.1) ++ [z.1]) (l.map (·.2) ++ [(((x.getD 8 0).toNat : Nat) : Int) == 1]) else some (out5 none) := by
      intro k
      rw [freshetref23_Read.l0, wself n (by omega), if_pos (by omega), if_pos (by omega), if_pos (by omega), Int.toNat_natCast, wplus8 _ (by omega), wplus9 _ (p + 8 + 9 * (j + 1)) (by omega) (by omega), wplus1 j (by omega), hb]
      refine congrArg _ (funext fun z => ?_)
      rw [if_pos (by omega), if_pos (by omega)]
      simp only [if_pos (show (l.map (·.1)).length < 17592186044416 by rw [List.length_map]; omega), if_pos (show (l.map (·.2)).length < 140737488355328 by rw [List.length_map]; omega)]
      exact rread_one k s n _ (j + 1) bd _ l x z
    refine Ev.step hstep (Ev.bind ho ?_)
    by_cases c : (x.getD 8 0).toNat ≤ 1 ∧ -1126999418470401 ≤ PCode.ord x ∧ PCode.ord x ≤ 1125899906842624
    · have h2 := hn (decide_eq_true c)
      rw [List.map_append, List.map_append] at h2
      have e : ((((x.getD 8 0).toNat : Nat) : Int) == 1) = (src1 x).2 := by
        unfold src1
        rw [Bool.eq_iff_iff]
        simp
        omega
      simp only [if_pos c]
      rw [e]
      exact h2
    · rw [hbad (decide_eq_false c)]
      simp only [if_neg c]
      exact Ev.now _
set_option maxHeartbeats 2000000 in
theorem ref_read (s : ByteArray) (hs : s.size ≤ 140737488351232) : Ev (fun k => freshetref23_Read.f k s) (out5 (read (L s))) := by
  obtain ⟨u, hu⟩ : ∃ u, PCode.uint (L s) = u := ⟨_, rfl⟩
  have hul : u.2.1 ≤ s.size ∧ u.1 < 18446744073709551616 := by have := uint_len_ (L s); rw [hu, L_length] at this; exact this
  have hx : L (s.extract u.2.1 s.size) = (L s).drop u.2.1 := L_drop s _
  obtain ⟨v, hv⟩ : ∃ v, PCode.uint (L (s.extract u.2.1 s.size)) = v := ⟨_, rfl⟩
  have hvl : v.2.1 ≤ s.size - u.2.1 ∧ v.1 < 18446744073709551616 := by
    have := uint_len_ (L (s.extract u.2.1 s.size))
    rw [hv, hx, List.length_drop, L_length] at this; exact this
  have hr : read (L s) = readW (L s) u v := by unfold read; rw [hu, ← hx, hv]
  have p1 := ref_uint s (by omega)
  have p2 := ref_uint (s.extract u.2.1 s.size) (by rw [ByteArray.size_extract]; omega)
  rw [hu] at p1
  rw [hv] at p2
  rw [hr]
  clear hr hu hx hv
  obtain ⟨n, i, e⟩ := u
  obtain ⟨bd, k', f⟩ := v
  obtain ⟨hul, hn⟩ := hul
  obtain ⟨hvl, hbd⟩ := hvl
  simp only at hul hn hvl hbd p1 p2 ⊢
  have bad : ∀ c : Bool, c = true → Ev (fun k => freshetref23_Read.j0 k s (n : Int) (i : Int) c) (out5 none) := by
    rintro _ rfl
    refine Ev.step (f := fun _ => some _) (fun k => ?_) (Ev.now _)
    rw [freshetref23_Read.j0, if_pos rfl]
    rfl
  have bad1 : ∀ c : Bool, c = true → Ev (fun k => freshetref23_Read.j1 k s (n : Int) (i : Int) (bd : Int) (k' : Int) c) (out5 none) := by
    rintro _ rfl
    refine Ev.step (f := fun _ => some _) (fun k => ?_) (Ev.now _)
    rw [freshetref23_Read.j1, if_pos rfl]
    rfl
  unfold freshetref23_Read.f
  refine Ev.bind p1 ?_
  dsimp only
  by_cases c1 : e = 0
  · subst c1
    simp only [Int.natCast_zero, if_true]
    by_cases c6 : 1 ≤ n
    · simp only [if_neg (show ¬ (n : Int) < 1 by omega)]
      by_cases c3 : n ≤ 16
      · rw [decide_eq_false (show ¬ (n : Int) > 16 by omega)]
        refine Ev.step (f := fun k => (freshetref02_Uint.f k (s.extract i s.size)).bind fun bt117 => (if bt117.2.2 = 0 then (if bt117.1 > 1099511627776 then (freshetref23_Read.j1 k s (n : Int) (i : Int) bt117.1 bt117.2.1 true) else (freshetref23_Read.j1 k s (n : Int) (i : Int) bt117.1 bt117.2.1 ((s.size : Int) != (wrap64 ((wrap64 ((wrap64 ((i : Int) + bt117.2.1)) + 8)) + (wrap64 (9 * (wrap64 ((n : Int))))))))))  else (freshetref23_Read.j1 k s (n : Int) (i : Int) bt117.1 bt117.2.1 true))) (fun k => ?_) (Ev.bind p2 ?_)
        · rw [freshetref23_Read.j0, if_neg (by simp), if_pos (by omega), if_pos (by omega), Int.toNat_natCast]
        · dsimp only
          simp only [wself n (by omega), wnine n (by omega), wplus i k' (by omega), wplus8 (i + k') (by omega), wplus (i + k' + 8) (9 * n) (by omega)]
          by_cases c2 : f = 0
          · subst c2
            simp only [Int.natCast_zero, if_true]
            by_cases c4 : bd ≤ 1099511627776
            · simp only [if_neg (show ¬ (bd : Int) > 1099511627776 by omega)]
              by_cases c5 : s.size = i + k' + 8 + 9 * n
              · have hz : readW (L s) (n, i, 0) (bd, k', 0) = readAt ((L s).drop (i + k')) n (bd : Int) := if_pos ⟨rfl, rfl, c3, c4, by show ((L s).drop (i + k')).length = _; rw [List.length_drop, L_length]; omega, c6⟩
                rw [hz, show ((s.size : Int) != ((i + k' + 8 + 9 * n : Nat) : Int)) = false from by rw [bne_eq_false_iff_eq]; omega]
                have ho := rord (s.extract (i + k') s.size) (by rw [ByteArray.size_extract]; omega)
                rw [L_drop] at ho
                refine Ev.step (f := fun k => (freshetref02_Ord.f k (s.extract (i + k') s.size)).bind fun bt121 => (freshetref23_Read.l0 k s (n : Int) ((i + k' + 8 + 9 * 0 : Nat) : Int) ((0 : Nat) : Int) (bd : Int) bt121.1 ([] : List Int) ([] : List Bool))) (fun k => ?_) (Ev.bind ho ?_)
                · rw [freshetref23_Read.j1, if_neg (by simp), wplus i k' (by omega), if_pos (by omega), if_pos (by omega), Int.toNat_natCast, wplus8 (i + k') (by omega), wself bd (by omega)]
                  rfl
                · exact rread_l s hs (i + k') n (bd : Int) (by omega) c3 n 0 (by omega) rfl
              · have hz : readW (L s) (n, i, 0) (bd, k', 0) = none := if_neg (fun h => c5 (by have := h.2.2.2.2.1; rw [List.length_drop, L_length] at this; change s.size - (i + k') = 8 + 9 * n at this; omega))
                rw [hz]
                exact bad1 _ (by rw [bne_iff_ne]; omega)
            · have hz : readW (L s) (n, i, 0) (bd, k', 0) = none := if_neg (fun h => c4 h.2.2.2.1)
              rw [hz]
              simp only [if_pos (show (bd : Int) > 1099511627776 by omega)]
              exact bad1 _ rfl
          · have hz : readW (L s) (n, i, 0) (bd, k', f) = none := if_neg (fun h => c2 h.2.1)
            rw [hz]
            simp only [if_neg (show ¬ (f : Int) = 0 by omega)]
            exact bad1 _ rfl
      · have hz : readW (L s) (n, i, 0) (bd, k', f) = none := if_neg (fun h => c3 h.2.2.1)
        rw [hz]
        exact bad _ (decide_eq_true (by omega))
    · have hz : readW (L s) (n, i, 0) (bd, k', f) = none := if_neg (fun h => c6 h.2.2.2.2.2)
      rw [hz]
      simp only [if_pos (show (n : Int) < 1 by omega)]
      exact bad _ rfl
  · have hz : readW (L s) (n, i, e) (bd, k', f) = none := if_neg (fun h => c1 h.1)
    rw [hz]
    simp only [if_neg (show ¬ (e : Int) = 0 by omega)]
    exact bad _ rfl
end Go.Proofs.Ytnkfldoejalpkaa.Marks
