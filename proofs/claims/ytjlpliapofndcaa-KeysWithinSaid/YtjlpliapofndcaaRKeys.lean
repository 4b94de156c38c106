/- Keys: what is given, and the awake of this layer, are the plain ones. -/
import Derived.Test.YtjlpliapofndcaaGKeys
import Derived.Test.YtjlpliapofndcaaPKeys
import Derived.Test.YtjlpliapofndcaaText
import Derived.Test.YtjlpliapofndcaaRText
import Derived.Test.YtjlpliapofndcaaPrint6
import Derived.Test.YtjlpliapofndcaaPrint5
namespace Go.Proofs.Ytjlpliapofndcaa.Print
open Go.RowKit Txt Go.Proofs.YtjlpliapofndcaaW.PrintWords
theorem L_toList (s : ByteArray) : s.toList = L s := ByteArray.toList_eq s
/-- a key, plain -/
def kOf (st gr : Int) (ky sp sb : ByteArray) : PKeys.K := ⟨st, gr, L ky, L sp, L sb⟩
theorem by1_of {x : Int} (h0 : 0 ≤ x) (h1 : x < 64) : UInt8.ofNat x.toNat = PKeys.by1 x := by
  unfold PKeys.by1
  rw [show x % 256 = x by omega]
theorem L_pt (s : ByteArray) : L (Keys.pt s) = PCode.putText (L s) := rfl
theorem L_head (st gr : Int) (ky sp sb : ByteArray) : L (Keys.headOf st gr ky sp ++ sb) = PKeys.enc (kOf st gr ky sp sb) := by
  unfold Keys.headOf
  rw [L_append, L_append, L_append, L_pt, L_pt, L_nums]
  unfold PKeys.enc kOf
  simp only [List.map_cons, List.map_nil, List.cons_append, List.nil_append, List.append_assoc]
  rfl
theorem check_of (st gr : Int) (ky sp sb : ByteArray) : PKeys.check (kOf st gr ky sp sb) = if st < 0 ∨ 64 ≤ st ∨ gr < 0 ∨ 64 ≤ gr then 2 else if 64 < ky.size ∨ 64 < sp.size ∨ 64 < sb.size then 3 else 0 := by
  unfold PKeys.check kOf
  simp only [L_length]
  by_cases h1 : st < 0 ∨ 64 ≤ st ∨ gr < 0 ∨ 64 ≤ gr
  · rw [if_pos h1, if_pos (by omega)]
  · rw [if_neg h1, if_neg (by omega)]
theorem encOf_eq (st gr : Int) (ky sp sb : ByteArray) : encOf st gr ky sp sb = (B (PKeys.encode (kOf st gr ky sp sb)).1, ((PKeys.encode (kOf st gr ky sp sb)).2 : Int)) := by
  unfold encOf PKeys.encode
  rw [check_of]
  by_cases h1 : st < 0 ∨ 64 ≤ st ∨ gr < 0 ∨ 64 ≤ gr
  · simp only [if_pos h1]; rfl
  · by_cases h2 : 64 < ky.size ∨ 64 < sp.size ∨ 64 < sb.size
    · simp only [if_neg h1, if_pos h2]; rfl
    · simp only [if_neg h1, if_neg h2]
      rw [if_neg (by simp), ← L_head, B_L]
      rfl
theorem keys_encode (st gr : Int) (ky sp sb : ByteArray) : keys_Encode.f st gr ky sp sb = some (B (PKeys.encode (kOf st gr ky sp sb)).1, ((PKeys.encode (kOf st gr ky sp sb)).2 : Int)) := by
  rw [← encOf_eq]; rfl
theorem rangeErr_of (st gr : Int) (ky sp sb : ByteArray) (p : Int) : PKeys.rangeErr (kOf st gr ky sp sb) p = if p < 1 ∨ 4 < p ∨ st < 0 ∨ 64 ≤ st ∨ (1 < p ∧ (gr < 0 ∨ 64 ≤ gr)) then 2 else if (2 < p ∧ 64 < ky.size) ∨ (3 < p ∧ 64 < sp.size) then 3 else 0 := by
  unfold PKeys.rangeErr kOf
  simp only [L_length]
  by_cases h1 : p < 1 ∨ 4 < p ∨ st < 0 ∨ 64 ≤ st ∨ (1 < p ∧ (gr < 0 ∨ 64 ≤ gr))
  · rw [if_pos h1, if_pos (by omega)]
  · rw [if_neg h1, if_neg (by omega)]
theorem L_from {st gr : Int} {ky sp sb : ByteArray} {p : Int} (h : PKeys.rangeErr (kOf st gr ky sp sb) p = 0) : L (fromOf st gr ky sp p) = PKeys.first (kOf st gr ky sp sb) p.toNat := by
  rw [rangeErr_of] at h
  by_cases h1 : p < 1 ∨ 4 < p ∨ st < 0 ∨ 64 ≤ st ∨ (1 < p ∧ (gr < 0 ∨ 64 ≤ gr))
  · rw [if_pos h1] at h; cases h
  have a1 : UInt8.ofNat st.toNat = PKeys.by1 st := by1_of (by omega) (by omega)
  have h2 : p = 1 ∨ p = 2 ∨ p = 3 ∨ p = 4 := by omega
  have e1 : L (strOfNums [st]) = [PKeys.by1 st] := by rw [L_nums]; simp only [List.map_cons, List.map_nil, a1]
  have hgr : 1 < p → L (strOfNums [gr]) = [PKeys.by1 gr] := fun hp => by
    have a2 : UInt8.ofNat gr.toNat = PKeys.by1 gr := by1_of (by omega) (by omega)
    rw [L_nums]; simp only [List.map_cons, List.map_nil, a2]
  rcases h2 with rfl | rfl | rfl | rfl
  · have f1 : fromOf st gr ky sp 1 = strOfNums [st] := rfl
    rw [f1, e1]
    rfl
  · have f1 : fromOf st gr ky sp 2 = strOfNums [st] ++ strOfNums [gr] := rfl
    rw [f1, L_append, e1, hgr (by decide)]
    rfl
  · have f1 : fromOf st gr ky sp 3 = strOfNums [st] ++ strOfNums [gr] ++ Keys.pt ky := rfl
    rw [f1, L_append, L_append, e1, hgr (by decide), L_pt]
    show _ = PKeys.by1 st :: ([PKeys.by1 gr] ++ (PCode.putText (L ky) ++ []))
    rw [List.append_nil]
    rfl
  · have f1 : fromOf st gr ky sp 4 = strOfNums [st] ++ strOfNums [gr] ++ Keys.pt ky ++ Keys.pt sp := rfl
    rw [f1, L_append, L_append, L_append, e1, hgr (by decide), L_pt, L_pt, List.append_assoc]
    rfl
theorem rangeOf_eq (st gr : Int) (ky sp sb : ByteArray) (p : Int) : rangeOf st gr ky sp p = (B (PKeys.range (kOf st gr ky sp sb) p).1, B (PKeys.range (kOf st gr ky sp sb) p).2.1, ((PKeys.range (kOf st gr ky sp sb) p).2.2 : Int)) := by
  have hf := L_from (st := st) (gr := gr) (ky := ky) (sp := sp) (sb := sb) (p := p)
  unfold rangeOf PKeys.range
  rw [rangeErr_of] at hf ⊢
  by_cases h1 : p < 1 ∨ 4 < p ∨ st < 0 ∨ 64 ≤ st ∨ (1 < p ∧ (gr < 0 ∨ 64 ≤ gr))
  · simp only [if_pos h1]; rfl
  · by_cases h2 : (2 < p ∧ 64 < ky.size) ∨ (3 < p ∧ 64 < sp.size)
    · simp only [if_neg h1, if_pos h2]; rfl
    · simp only [if_neg h1, if_neg h2] at hf ⊢
      have hf := hf trivial
      rw [if_neg (by simp), ← hf, B_L]
      rfl
theorem keys_range {st gr : Int} {ky sp sb : ByteArray} {p : Int} (h : (Lit.int .i64 p).wf = true) : keys_Range.f st gr ky sp sb p = some (B (PKeys.range (kOf st gr ky sp sb) p).1, B (PKeys.range (kOf st gr ky sp sb) p).2.1, ((PKeys.range (kOf st gr ky sp sb) p).2.2 : Int)) := by
  have hmin : IntKind.i64.min = -9223372036854775808 := rfl
  have hmax : IntKind.i64.max = 9223372036854775807 := rfl
  simp only [Lit.wf, Bool.and_eq_true, decide_eq_true_eq] at h
  unfold keys_Range.f
  rw [if_pos (by omega), rangeOf_eq]
theorem keys_check (st gr : Int) (ky sp sb : ByteArray) : keys_Check.f st gr ky sp sb = some ((PKeys.check (kOf st gr ky sp sb) : Nat) : Int) := by
  unfold keys_Check.f
  rw [keys_encode]
  unfold PKeys.encode
  by_cases h : PKeys.check (kOf st gr ky sp sb) = 0
  · rw [if_neg (by simpa using h), h]; rfl
  · rw [if_pos h]; rfl
theorem text_le (l : List UInt8) : (PCode.text l).2.1 ≤ l.length := by
  rcases PCode.text_err l.length l (Nat.le_refl _) with h | h | h
  · exact (PCode.text_ok l.length l (PCode.text l).1 (PCode.text l).2.1 (Nat.le_refl _) (Prod.ext rfl (Prod.ext rfl h))).2.2
  · rw [h]; exact Nat.zero_le _
  · rw [h]; exact Nat.zero_le _
/-- a key and a number, as the printed functions hand them back -/
def K6 (r : PKeys.K × Nat) : Int × Int × ByteArray × ByteArray × ByteArray × Int := (r.1.state, r.1.group, B r.1.key, B r.1.space, B r.1.sub, (r.2 : Int))
theorem code_text_f (s : ByteArray) (h : s.size ≤ 140737488355326) : code_Text.f s = some (ZT (PCode.text (L s))) := if_pos h
theorem bt_wrap (s : ByteArray) (i : Int) : wrap64 (bt s i) = (((L s).getD i.toNat 0).toNat : Int) := by
  rw [bt_getD]
  have := ((L s).getD i.toNat 0).toNat_lt
  exact wrap_id (by omega) (by omega)
theorem kOf_parts (a b : Int) (x y : List UInt8) (z : ByteArray) : kOf a b (B x) (B y) z = ⟨a, b, x, y, L z⟩ := rfl
theorem decoded_is {s : ByteArray} {r1 r2 : List UInt8 × Nat × Nat} (h1 : PCode.text ((L s).drop 2) = r1) (h2 : PCode.text ((L s).drop (2 + r1.2.1)) = r2) :
    kOf (wrap64 (bt s 0)) (wrap64 (bt s 1)) (B r1.1) (B r2.1) (s.extract (2 + r1.2.1 + r2.2.1) s.size) = PKeys.decoded (L s) := by
  subst h1
  subst h2
  rw [kOf_parts, L_drop, bt_wrap, bt_wrap]
  rfl
theorem decode_is {s : ByteArray} {r1 r2 : List UInt8 × Nat × Nat} (h1 : PCode.text ((L s).drop 2) = r1) (h2 : PCode.text ((L s).drop (2 + r1.2.1)) = r2) :
    PKeys.decode (L s) = if s.size < 2 ∨ r1.2.2 ≠ 0 ∨ r2.2.2 ≠ 0 ∨ PKeys.check (PKeys.decoded (L s)) ≠ 0 then (PKeys.none_, 7) else (PKeys.decoded (L s), 0) := by
  subst h1
  subst h2
  unfold PKeys.decode
  rw [L_length]
theorem wrapN (a b : Nat) (h : a + b ≤ 4611686018427387904) : wrap64 ((a : Int) + (b : Int)) = ((a + b : Nat) : Int) := by
  rw [wrap_id (by omega) (by omega)]; omega
theorem code_text_ev (s : ByteArray) (h : s.size ≤ 140737488355326) : Ev (fun _ : Nat => code_Text.f s) (ZT (PCode.text (L s))) := by
  rw [code_text_f s h]
  exact Ev.now _
theorem keys_check_ev (st gr : Int) (ky sp sb : ByteArray) : Ev (fun _ : Nat => keys_Check.f st gr ky sp sb) ((PKeys.check (kOf st gr ky sp sb) : Nat) : Int) := by
  rw [keys_check]
  exact Ev.now _
theorem keys_decode_ev (s : ByteArray) (hs : s.size ≤ 140737488355326) : Ev (fun _ : Nat => keys_Decode.f s) (K6 (PKeys.decode (L s))) := by
  obtain ⟨r1, h1⟩ : ∃ r, PCode.text ((L s).drop 2) = r := ⟨_, rfl⟩
  obtain ⟨r2, h2⟩ : ∃ r, PCode.text ((L s).drop (2 + r1.2.1)) = r := ⟨_, rfl⟩
  rw [decode_is h1 h2]
  have hd := decoded_is h1 h2
  have l1 := text_le ((L s).drop 2)
  have l2 := text_le ((L s).drop (2 + r1.2.1))
  rw [h1, List.length_drop, L_length] at l1
  rw [h2, List.length_drop, L_length] at l2
  unfold keys_Decode.f
  by_cases h : s.size < 2
  · rw [show (if s.size < 2 ∨ r1.2.2 ≠ 0 ∨ r2.2.2 ≠ 0 ∨ PKeys.check (PKeys.decoded (L s)) ≠ 0 then (PKeys.none_, 7) else (PKeys.decoded (L s), 0)) = (PKeys.none_, 7) from if_pos (Or.inl h)]
    exact Ev.congr (fun k => if_pos (by omega)) (Ev.now _)
  · have e1 : L (s.extract 2 s.size) = (L s).drop 2 := L_drop s 2
    have e2 : L (s.extract (2 + r1.2.1) s.size) = (L s).drop (2 + r1.2.1) := L_drop s _
    have t1 := code_text_ev (s.extract 2 s.size) (by rw [ByteArray.size_extract]; omega)
    rw [e1, h1] at t1
    have t2 := code_text_ev (s.extract (2 + r1.2.1) s.size) (by rw [ByteArray.size_extract]; omega)
    rw [e2, h2] at t2
    have b1 : (0 : Int) ≤ ((2 + r1.2.1 : Nat) : Int) := by omega
    have b2 : ((2 + r1.2.1 : Nat) : Int) ≤ (s.size : Int) := by omega
    have b3 : (0 : Int) ≤ ((2 + r1.2.1 + r2.2.1 : Nat) : Int) := by omega
    have b4 : ((2 + r1.2.1 + r2.2.1 : Nat) : Int) ≤ (s.size : Int) := by omega
    have W1 := Lib.hid (show wrap64 (2 + (r1.2.1 : Int)) = ((2 + r1.2.1 : Nat) : Int) from wrapN 2 r1.2.1 (by omega))
    have W2 := Lib.hid (wrapN (2 + r1.2.1) r2.2.1 (by omega))
    refine Ev.congr (fun k => if_neg (by omega)) ?_
    refine Ev.congr (fun k => if_pos (by omega)) ?_
    refine Ev.bind t1 ?_
    refine Ev.congr (fun k => if_pos (by show 0 ≤ wrap64 (2 + (r1.2.1 : Int)); rw [W1.out]; exact b1)) ?_
    refine Ev.congr (fun k => if_pos (by show wrap64 (2 + (r1.2.1 : Int)) ≤ _; rw [W1.out]; exact b2)) ?_
    refine Ev.bind (a := ZT r2) (by show Ev (fun _ => code_Text.f (s.extract (wrap64 (2 + (r1.2.1 : Int))).toNat s.size)) _; rw [W1.out, Int.toNat_natCast]; exact t2) ?_
    refine Ev.congr (fun k => if_pos (by omega)) ?_
    refine Ev.congr (fun k => if_pos (by omega)) ?_
    refine Ev.congr (fun k => if_pos (by show 0 ≤ wrap64 (wrap64 (2 + (r1.2.1 : Int)) + (r2.2.1 : Int)); rw [W1.out, W2.out]; exact b3)) ?_
    refine Ev.congr (fun k => if_pos (by show wrap64 (wrap64 (2 + (r1.2.1 : Int)) + (r2.2.1 : Int)) ≤ _; rw [W1.out, W2.out]; exact b4)) ?_
    have e3 : s.extract (wrap64 (wrap64 (2 + (r1.2.1 : Int)) + (r2.2.1 : Int))).toNat s.size = s.extract (2 + r1.2.1 + r2.2.1) s.size := by rw [W1.out, W2.out, Int.toNat_natCast]
    by_cases c1 : r1.2.2 = 0
    · refine Ev.congr (fun k => if_pos (by show (r1.2.2 : Int) = 0; omega)) ?_
      by_cases c2 : r2.2.2 = 0
      · refine Ev.congr (fun k => if_pos (by show (r2.2.2 : Int) = 0; omega)) ?_
        have hc := keys_check_ev (wrap64 (bt s 0)) (wrap64 (bt s 1)) (B r1.1) (B r2.1) (s.extract (2 + r1.2.1 + r2.2.1) s.size)
        rw [hd] at hc
        refine Ev.bind (a := ((PKeys.check (PKeys.decoded (L s)) : Nat) : Int)) (by show Ev (fun _ => keys_Check.f (wrap64 (bt s 0)) (wrap64 (bt s 1)) (B r1.1) (B r2.1) (s.extract (wrap64 (wrap64 (2 + (r1.2.1 : Int)) + (r2.2.1 : Int))).toNat s.size)) _; rw [e3]; exact hc) ?_
        by_cases c3 : PKeys.check (PKeys.decoded (L s)) = 0
        · rw [show (if s.size < 2 ∨ r1.2.2 ≠ 0 ∨ r2.2.2 ≠ 0 ∨ PKeys.check (PKeys.decoded (L s)) ≠ 0 then (PKeys.none_, 7) else (PKeys.decoded (L s), 0)) = (PKeys.decoded (L s), 0) from if_neg (by omega)]
          refine Ev.congr (fun k => if_pos (by omega)) ?_
          refine Ev.congr (f := fun _ => some (K6 (kOf (wrap64 (bt s 0)) (wrap64 (bt s 1)) (B r1.1) (B r2.1) (s.extract (2 + r1.2.1 + r2.2.1) s.size), 0))) (fun k => ?_) (by rw [hd]; exact Ev.now _)
          show some (wrap64 (bt s 0), wrap64 (bt s 1), B r1.1, B r2.1, s.extract (wrap64 (wrap64 (2 + (r1.2.1 : Int)) + (r2.2.1 : Int))).toNat s.size, (0 : Int)) = _
          rw [e3]
          rfl
        · rw [show (if s.size < 2 ∨ r1.2.2 ≠ 0 ∨ r2.2.2 ≠ 0 ∨ PKeys.check (PKeys.decoded (L s)) ≠ 0 then (PKeys.none_, 7) else (PKeys.decoded (L s), 0)) = (PKeys.none_, 7) from if_pos (by omega)]
          exact Ev.congr (fun k => if_neg (by omega)) (Ev.now _)
      · rw [show (if s.size < 2 ∨ r1.2.2 ≠ 0 ∨ r2.2.2 ≠ 0 ∨ PKeys.check (PKeys.decoded (L s)) ≠ 0 then (PKeys.none_, 7) else (PKeys.decoded (L s), 0)) = (PKeys.none_, 7) from if_pos (by omega)]
        exact Ev.congr (fun k => if_neg (by show ¬ (r2.2.2 : Int) = 0; omega)) (Ev.now _)
    · rw [show (if s.size < 2 ∨ r1.2.2 ≠ 0 ∨ r2.2.2 ≠ 0 ∨ PKeys.check (PKeys.decoded (L s)) ≠ 0 then (PKeys.none_, 7) else (PKeys.decoded (L s), 0)) = (PKeys.none_, 7) from if_pos (by omega)]
      exact Ev.congr (fun k => if_neg (by show ¬ (r1.2.2 : Int) = 0; omega)) (Ev.now _)
theorem keys_decode (s : ByteArray) (hs : s.size ≤ 140737488355326) : keys_Decode.f s = some (K6 (PKeys.decode (L s))) := by
  obtain ⟨K, h⟩ := keys_decode_ev s hs
  exact h K (Nat.le_refl _)
theorem awake03 : freshetlaw03_awake.f = some true := by
  have e1 : PKeys.encode (kOf 1 2 (⟨#[97]⟩ : ByteArray) (⟨#[]⟩ : ByteArray) (⟨#[120]⟩ : ByteArray)) = ([1, 2, 97, 0, 1, 0, 1, 120], 0) := by decide +kernel
  have e2 : (PKeys.decode [64, 0, 0, 1, 0, 1]).2 = 7 := by decide +kernel
  have e3 : PKeys.range (kOf 1 2 (⟨#[97]⟩ : ByteArray) (⟨#[]⟩ : ByteArray) (⟨#[]⟩ : ByteArray)) 3 = ([1, 2, 97, 0, 1], [1, 2, 97, 0, 2], 0) := by decide +kernel
  unfold freshetlaw03_awake.f
  rw [keys_encode, keys_range (sb := ⟨#[]⟩) rfl, keys_decode _ (by decide), e1, e3, show L (⟨#[64, 0, 0, 1, 0, 1]⟩ : ByteArray) = [64, 0, 0, 1, 0, 1] from rfl]
  simp only [Option.bind_some, L_toList]
  simp [K6, e2]
theorem awake_ev : Ev (fun _ : Nat => freshetlaw03_awake.f) true := by
  rw [awake03]
  exact Ev.now _
theorem awake_end : Ev (fun _ : Nat => (freshetlaw03_awake.f).bind fun t => some t) true := by
  rw [awake03]
  exact Ev.now _
end Go.Proofs.Ytjlpliapofndcaa.Print
