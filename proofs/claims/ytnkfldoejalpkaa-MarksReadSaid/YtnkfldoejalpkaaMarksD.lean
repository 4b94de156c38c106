/- Marks: a script of calls. -/
import Derived.Test.YtnkfldoejalpkaaMarksT
import Derived.Test.YtnkfldoejalpkaaOps
import Derived.Test.YtnkfldoejalpkaaText
namespace Go.Proofs.Ytnkfldoejalpkaa.Marks
open Go.RowKit Aid PMarks Txt
theorem B_nil (x : ByteArray) : x ++ B [] = x := by
  apply L_inj
  rw [L_append]
  show L x ++ [] = L x
  rw [List.append_nil]
theorem saysAll_take (l : List PMarks.Op) : ∀ (s : St) (i : Nat) (h : i < l.length), saysAll s (l.take (i + 1)) = saysAll s (l.take i) ++ says (acts s (l.take i)) l[i] := by
  induction l with
  | nil => intro s i h; cases h
  | cons o l ih =>
    intro s i h
    cases i with
    | zero => simp [saysAll, acts]
    | succ i =>
      simp only [List.take_succ_cons, saysAll, List.append_assoc]
      rw [ih (act s o) i (by simpa using h)]
      rfl
theorem acts_take (l : List PMarks.Op) (s : St) (i : Nat) (h : i < l.length) : acts s (l.take (i + 1)) = act (acts s (l.take i)) l[i] := by
  rw [List.take_succ_eq_append_getElem h]
  unfold acts
  rw [List.foldl_append]
  rfl
theorem good_acts {s : St} (h : Good s) (l : List PMarks.Op) : Good (acts s l) := by
  induction l generalizing s with
  | nil => exact h
  | cons o l ih => exact ih (h.act o)
theorem says_le (s : St) (o : PMarks.Op) : (says s o).length ≤ 3 := by
  unfold says
  split
  · split <;> split <;> simp
  · simp
theorem saysAll_le (l : List PMarks.Op) : ∀ s, (saysAll s l).length ≤ 3 * l.length := by
  induction l with
  | nil => intro s; simp [saysAll]
  | cons o l ih => intro s; have := says_le s o; have := ih (act s o); simp only [saysAll, List.length_append, List.length_cons]; omega
theorem does_any (b : Nat) (s : St) (hg : Good s) (a : Option Addr) (cap : Nat) (l : List PMarks.Op) (hl : l.length ≤ 1000) (w : World) (h : Held w b s) (ho : OpsAt w a l) (hne : ∀ ad, a = some ad → 0 < l.length → ad.block ≠ b) :
    Calls Try.prog 17 #[.pointer (some ⟨b, 0, none⟩), .slice a l.length cap] w fun e w' => e = .returned (.string (B (saysAll s l))) ∧ Held w' b (acts s l) ∧ w.grownBy w' (some b) := by
  have HO := Lib.hid ho
  have HN := Lib.hid hne
  have HG := Lib.hid hg
  clear ho hne hg
  have hl0 : (l.length : Int) ≤ 1000 := by omega
  go_enter Try.func17, Try.ntmps17
  go_wp2_with fail
  go_loopw [5, 6] (fun v5 v6 wr => ∃ i : Nat, i ≤ l.length ∧ v5 = .string (B (saysAll s (l.take i))) ∧ v6 = .int .i64 i ∧ Held wr b (acts s (l.take i)) ∧ w.grownBy wr (some b)) (fun _ v6 _ => l.length - (intOf v6).toNat)
  case atStart => exact ⟨0, by omega, rfl, rfl, h, only_refl _ _⟩
  case round =>
    obtain ⟨i, hi, rfl, rfl, hH, hw⟩ := hrel
    by_cases hlt : i < l.length
    · have t1 : ((i : Int) < (l.length : Int)) = True := eq_true (by omega)
      have hsa := saysAll_take l s i hlt
      have hac := acts_take l s i hlt
      have hle := saysAll_le (l.take i) s
      have hle2 : (l.take i).length ≤ i := List.length_take_le _ _
      have hG := good_acts HG.out (l.take i)
      obtain ⟨ad, rfl, c0, c1, c2⟩ := HO.out.grown hw HN.out i hlt
      generalize acts s (l.take i) = sr at hH hsa hac hG
      generalize l[i] = o at c0 c1 c2 hsa hac
      have hsz : (B (saysAll s (l.take i))).size ≤ 3000 := by rw [size_B]; omega
      obtain ⟨dd, ds, dt⟩ := o
      change wr.cell? ⟨(ad.add (i * 3)).block, (ad.add (i * 3)).off + 1, none⟩ = _ at c1
      change wr.cell? ⟨(ad.add (i * 3)).block, (ad.add (i * 3)).off + 2, none⟩ = _ at c2
      simp only at c0 c1 c2
      clear hle hle2
      have hx : ∀ t, saysAll s (l.take (i + 1)) = saysAll s (l.take i) ++ t → B (saysAll s (l.take (i + 1))) = B (saysAll s (l.take i)) ++ B t := fun t h => by rw [h]; exact (B_append _ _).symm
      have HX := Lib.hid hx
      clear hx
      generalize hX : B (saysAll s (l.take i)) = x at hsz HX ⊢
      have HE := Lib.hid hX
      clear hX
      have hx1 : (x.size : Int) ≤ 3000 := by omega
      generalize hW : wr.alloc (.cells #[.int .i64 dd, .int .i64 ds, .int .i64 dt] 35) = W2
      have B2 : Blk W2 wr.heap.size 35 #[.int .i64 dd, .int .i64 ds, .int .i64 dt] := by rw [← hW]; exact Blk.new _ _ _
      have q0 := (B2.cell 0).trans rfl
      have q1 := (B2.cell 1).trans rfl
      have q2 := (B2.cell 2).trans rfl
      have hH2 : Held W2 b sr := by rw [← hW]; exact hH.below ((Below.refl _ _).alloc (Nat.le_refl _) _) hH.lt
      have hw2 : w.grownBy W2 (some b) := by rw [← hW]; exact only_alloc hw _
      have HW2 := Lib.hid hw2
      have HH2 := Lib.hid hH2
      clear B2 hw2 hH2 hH hw
      by_cases d1 : dd = 1
      · subst d1
        cases ha : asked sr ds dt with
        | true =>
          obtain ⟨s', hs'⟩ : ∃ s', s' = tell sr ds.toNat (dt - sr.bound - 1) := ⟨_, rfl⟩
          have ea : act sr ⟨1, ds, dt⟩ = s' := by unfold PMarks.act see; rw [if_pos rfl, if_pos ha, hs']
          rw [ea] at hac
          cases hd : decide (dt ≤ sr.now) with
          | true =>
            have es : see sr ds dt = (s', true, 0) := by unfold see; rw [if_pos ha, hs', hd]
            have ey : says sr ⟨1, ds, dt⟩ = [108] ++ [46] := by unfold says; simp [es]
            rw [ey] at hsa
            have HS := Lib.hid ((HX.out _ hsa).trans (congrArg (x ++ ·) (B_append [108] [46]).symm))
            have HA := Lib.hid hac
            have HC := Lib.hid (see_at HH2.out hG es)
            clear es ea ey hsa hac ha hd hs'
            go_wp2_with fail
            refine (HC.out).mono ?_
            rintro e w3 ⟨rfl, h3, k3⟩
            have H3 := Lib.hid h3
            have K3 := Lib.hid (only_trans HW2.out k3)
            clear h3 k3
            go_wp2_with fail
            go_roundw
            case rel => exact ⟨i + 1, by omega, by rw [HS.out, ByteArray.append_assoc], by go_num, by rw [HA.out]; exact H3.out, K3.out⟩
            case measure => simp [intOf]; omega
          | false =>
            have es : see sr ds dt = (s', false, 0) := by unfold see; rw [if_pos ha, hs', hd]
            have ey : says sr ⟨1, ds, dt⟩ = [46] := by unfold says; simp [es]
            rw [ey] at hsa
            have HS := Lib.hid (HX.out _ hsa)
            have HA := Lib.hid hac
            have HC := Lib.hid (see_at HH2.out hG es)
            clear es ea ey hsa hac ha hd hs'
            go_wp2_with fail
            refine (HC.out).mono ?_
            rintro e w3 ⟨rfl, h3, k3⟩
            have H3 := Lib.hid h3
            have K3 := Lib.hid (only_trans HW2.out k3)
            clear h3 k3
            go_wp2_with fail
            go_roundw
            case rel => exact ⟨i + 1, by omega, by rw [HS.out], by go_num, by rw [HA.out]; exact H3.out, K3.out⟩
            case measure => simp [intOf]; omega
        | false =>
          have es : see sr ds dt = (sr, false, 2) := by unfold see; rw [if_neg (by rw [ha]; simp)]
          have ea : act sr ⟨1, ds, dt⟩ = sr := by unfold PMarks.act; rw [if_pos rfl, es]
          have ey : says sr ⟨1, ds, dt⟩ = [101] ++ [46] := by unfold says; simp [es]
          rw [ea] at hac
          rw [ey] at hsa
          have HS := Lib.hid ((HX.out _ hsa).trans (congrArg (x ++ ·) (B_append [101] [46]).symm))
          have HA := Lib.hid hac
          have HC := Lib.hid (see_at HH2.out hG es)
          clear es ea ey hsa hac ha
          go_wp2_with fail
          refine (HC.out).mono ?_
          rintro e w3 ⟨rfl, h3, k3⟩
          have H3 := Lib.hid h3
          have K3 := Lib.hid (only_trans HW2.out k3)
          clear h3 k3
          go_wp2_with fail
          go_roundw
          case rel => exact ⟨i + 1, by omega, by rw [HS.out, ByteArray.append_assoc], by go_num, by rw [HA.out]; exact H3.out, K3.out⟩
          case measure => simp [intOf]; omega
      · have ey : says sr ⟨dd, ds, dt⟩ = [] := by unfold says; rw [if_neg d1]
        rw [ey] at hsa
        have HS := Lib.hid ((HX.out _ hsa).trans (B_nil x))
        have n1 : (dd == 1) = false := beq_eq_false_iff_ne.2 d1
        by_cases d2 : dd = 2
        · have ea : act sr ⟨dd, ds, dt⟩ = (tellE sr ds dt).1 := by unfold PMarks.act; rw [if_neg d1, if_pos d2]
          rw [ea] at hac
          have HA := Lib.hid hac
          have HC := Lib.hid (tell_at (k := ds) (t := dt) HH2.out hG rfl)
          subst d2
          clear ea ey hsa hac
          go_wp2_with fail
          refine (HC.out).mono ?_
          rintro e w3 ⟨rfl, h3, k3⟩
          have H3 := Lib.hid h3
          have K3 := Lib.hid (only_trans HW2.out k3)
          clear h3 k3
          go_wp2_with fail
          go_roundw
          case rel => exact ⟨i + 1, by omega, by rw [HS.out], by go_num, by rw [HA.out]; exact H3.out, K3.out⟩
          case measure => simp [intOf]; omega
        · have n2 : (dd == 2) = false := beq_eq_false_iff_ne.2 d2
          by_cases d3 : dd = 3
          · have ea : act sr ⟨dd, ds, dt⟩ = (idleE sr ds).1 := by unfold PMarks.act; rw [if_neg d1, if_neg d2, if_pos d3]
            rw [ea] at hac
            have HA := Lib.hid hac
            have HC := Lib.hid (idle_at (k := ds) HH2.out hG rfl)
            subst d3
            clear ea ey hsa hac
            go_wp2_with fail
            refine (HC.out).mono ?_
            rintro e w3 ⟨rfl, h3, k3⟩
            have H3 := Lib.hid h3
            have K3 := Lib.hid (only_trans HW2.out k3)
            clear h3 k3
            go_wp2_with fail
            go_roundw
            case rel => exact ⟨i + 1, by omega, by rw [HS.out], by go_num, by rw [HA.out]; exact H3.out, K3.out⟩
            case measure => simp [intOf]; omega
          · have n3 : (dd == 3) = false := beq_eq_false_iff_ne.2 d3
            have ea : act sr ⟨dd, ds, dt⟩ = sr := by unfold PMarks.act; rw [if_neg d1, if_neg d2, if_neg d3]
            rw [ea] at hac
            have HA := Lib.hid hac
            clear ea ey hsa hac
            go_wp2_with fail
            go_roundw
            case rel => exact ⟨i + 1, by omega, by rw [HS.out], by go_num, by rw [HA.out]; exact HH2.out, HW2.out⟩
            case measure => simp [intOf]; omega
    · have t1 : ((i : Int) < (l.length : Int)) = False := eq_false (by omega)
      obtain rfl : i = l.length := by omega
      rw [List.take_length] at hH ⊢
      go_wp2_with fail
      go_ret
      exact ⟨rfl, hH, hw⟩
end Go.Proofs.Ytnkfldoejalpkaa.Marks
