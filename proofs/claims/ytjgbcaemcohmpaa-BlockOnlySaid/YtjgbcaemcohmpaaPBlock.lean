/- Plain theory (PBlock), without any program. -/
import Derived.Test.YtjgbcaemcohmpaaPCode
namespace PBlock
open PCode
structure Row where
  key : List UInt8
  seq : Nat
  kind : Int
  value : List UInt8
def check (r : Row) : Nat :=
  if (r.kind ≠ 1 ∧ r.kind ≠ 2) ∨ r.key = [] ∨ (r.kind = 2 ∧ r.value ≠ []) ∨ r.seq = 0 ∨ 72057594037927935 < r.seq then 2
  else if 520 < r.key.length ∨ 2048 < r.value.length then 3 else 0
theorem check_ok {r : Row} (h : check r = 0) : (r.kind = 1 ∨ r.kind = 2) ∧ r.key ≠ [] ∧ (r.kind = 2 → r.value = []) ∧ 0 < r.seq ∧ r.seq ≤ 72057594037927935 ∧ r.key.length ≤ 520 ∧ r.value.length ≤ 2048 := by
  unfold check at h
  split at h
  · omega
  · rename_i h1
    split at h
    · omega
    · rename_i h2
      refine ⟨by omega, fun e => h1 (.inr (.inl e)), fun e => ?_, by omega, by omega, by omega, by omega⟩
      exact Classical.byContradiction fun f => h1 (.inr (.inr (.inl ⟨e, f⟩)))
def ahead (r : Row) (key : List UInt8) (seq : Nat) : Bool := lt r.key key || (r.key == key && decide (seq < r.seq))
def order : List Row → Bool
  | a :: b :: l => ahead a b.key b.seq && order (b :: l)
  | _ => true
/-! the order of bytes is one -/
theorem lt_trans {a b c : List UInt8} (h1 : lt a b = true) (h2 : lt b c = true) : lt a c = true := by
  induction a generalizing b c with
  | nil =>
    cases c with
    | nil => rw [lt_nil_right] at h2; cases h2
    | cons => rfl
  | cons x a ih =>
    cases b with
    | nil => rw [lt_nil_right] at h1; cases h1
    | cons y b =>
      cases c with
      | nil => rw [lt_nil_right] at h2; cases h2
      | cons z c =>
        simp only [lt_cons, Bool.or_eq_true, decide_eq_true_eq, Bool.and_eq_true, beq_iff_eq] at *
        rcases h1 with h1 | ⟨rfl, h1⟩
        · rcases h2 with h2 | ⟨rfl, _⟩
          · left; rw [UInt8.lt_iff_toNat_lt] at *; omega
          · left; exact h1
        · rcases h2 with h2 | ⟨rfl, h2⟩
          · left; exact h2
          · right; exact ⟨rfl, ih h1 h2⟩
theorem lt_asymm {a b : List UInt8} (h : lt a b = true) : lt b a = false := by
  cases e : lt b a with
  | false => rfl
  | true => have := lt_trans h e; rw [lt_irrefl] at this; cases this
theorem lt_total (a b : List UInt8) : lt a b = true ∨ a = b ∨ lt b a = true := by
  induction a generalizing b with
  | nil => cases b with
    | nil => right; left; rfl
    | cons => left; rfl
  | cons x a ih =>
    cases b with
    | nil => right; right; rfl
    | cons y b =>
      simp only [lt_cons, Bool.or_eq_true, decide_eq_true_eq, Bool.and_eq_true, beq_iff_eq]
      by_cases h : x = y
      · subst h
        rcases ih b with h1 | h1 | h1
        · left; right; exact ⟨rfl, h1⟩
        · right; left; rw [h1]
        · right; right; right; exact ⟨rfl, h1⟩
      · have : x.toNat ≠ y.toNat := fun e => h (UInt8.toNat_inj.mp e)
        rcases Nat.lt_or_gt_of_ne this with g | g
        · left; left; rw [UInt8.lt_iff_toNat_lt]; exact g
        · right; right; left; rw [UInt8.lt_iff_toNat_lt]; exact g
theorem ahead_iff (r : Row) (k : List UInt8) (s : Nat) : ahead r k s = true ↔ lt r.key k = true ∨ (r.key = k ∧ s < r.seq) := by
  simp [ahead]
theorem ahead_trans {a b : Row} {k : List UInt8} {s : Nat} (h1 : ahead a b.key b.seq = true) (h2 : ahead b k s = true) : ahead a k s = true := by
  rw [ahead_iff] at *
  rcases h1 with h1 | ⟨e1, h1⟩
  · rcases h2 with h2 | ⟨e2, _⟩
    · left; exact lt_trans h1 h2
    · left; rw [← e2]; exact h1
  · rcases h2 with h2 | ⟨e2, h2⟩
    · left; rw [e1]; exact h2
    · right; exact ⟨e1.trans e2, by omega⟩
theorem ahead_irrefl (r : Row) : ahead r r.key r.seq = false := by
  unfold ahead; rw [lt_irrefl]; simp
theorem order_tail {a : Row} {l : List Row} (h : order (a :: l) = true) : order l = true := by
  cases l with
  | nil => rfl
  | cons b l => simp only [order, Bool.and_eq_true] at h; exact h.2
theorem order_all {a : Row} {l : List Row} (h : order (a :: l) = true) : ∀ b ∈ l, ahead a b.key b.seq = true := by
  induction l generalizing a with
  | nil => intro b hb; cases hb
  | cons c l ih =>
    intro b hb
    have hc : ahead a c.key c.seq = true := by simp only [order, Bool.and_eq_true] at h; exact h.1
    rcases List.mem_cons.1 hb with rfl | hb
    · exact hc
    · exact ahead_trans hc (ih (order_tail h) b hb)
theorem order_at {l : List Row} (h : order l = true) {i j : Nat} (hij : i < j) (hj : j < l.length) : ahead (l[i]'(by omega)) (l[j]).key (l[j]).seq = true := by
  induction l generalizing i j with
  | nil => simp at hj
  | cons a l ih =>
    cases j with
    | zero => omega
    | succ j =>
      cases i with
      | zero => exact order_all h _ (List.getElem_mem _)
      | succ i => exact ih (order_tail h) (by omega) (by simpa using hj)
theorem order_take {l : List Row} (h : order l = true) (n : Nat) : order (l.take n) = true := by
  induction n generalizing l with
  | zero => rw [List.take_zero]; rfl
  | succ n ih =>
    cases l with
    | nil => rfl
    | cons a l =>
      rw [List.take_succ_cons]
      have := ih (order_tail h)
      cases l with
      | nil => rw [List.take_nil]; rfl
      | cons b l =>
        cases n with
        | zero => rfl
        | succ n =>
          rw [List.take_succ_cons] at this ⊢
          simp only [order, Bool.and_eq_true] at h ⊢
          exact ⟨h.1, this⟩
theorem order_drop {l : List Row} (h : order l = true) (n : Nat) : order (l.drop n) = true := by
  induction n generalizing l with
  | zero => exact h
  | succ n ih =>
    cases l with
    | nil => rfl
    | cons a l => exact ih (order_tail h)
/-! rows as bytes -/
def common : List UInt8 → List UInt8 → Nat
  | a :: x, b :: y => if a = b then common x y + 1 else 0
  | _, _ => 0
theorem common_le : ∀ (x y : List UInt8), common x y ≤ x.length ∧ common x y ≤ y.length
  | [], _ => by simp [common]
  | _ :: _, [] => by simp [common]
  | a :: x, b :: y => by
    unfold common
    split
    · have := common_le x y; simp; omega
    · simp
theorem common_take : ∀ (x y : List UInt8), x.take (common x y) = y.take (common x y)
  | [], _ => by simp [common]
  | _ :: _, [] => by simp [common]
  | a :: x, b :: y => by
    unfold common
    split
    · rename_i h
      rw [h, List.take_succ_cons, List.take_succ_cons, common_take x y]
    · rfl
def rowEnc (r : Row) (last : List UInt8) : List UInt8 :=
  putUint (common last r.key) ++ putField (r.key.drop (common last r.key)) ++ putUint r.seq ++ [UInt8.ofNat (r.kind % 256).toNat] ++ (if r.kind = 1 then putField r.value else [])
/-- a row and how many bytes it has -/
def read (s last : List UInt8) : Option (Row × Nat) :=
  if (uint s).2.2 ≠ 0 ∨ last.length < (uint s).1 then none
  else if (field (s.drop (uint s).2.1) 520).2.2 ≠ 0 then none
  else if (uint (s.drop ((uint s).2.1 + (field (s.drop (uint s).2.1) 520).2.1))).2.2 ≠ 0 ∨ (uint s).2.1 + (field (s.drop (uint s).2.1) 520).2.1 + (uint (s.drop ((uint s).2.1 + (field (s.drop (uint s).2.1) 520).2.1))).2.1 = s.length then none
  else
    let n := (uint s).2.1 + (field (s.drop (uint s).2.1) 520).2.1 + (uint (s.drop ((uint s).2.1 + (field (s.drop (uint s).2.1) 520).2.1))).2.1
    let key := last.take (uint s).1 ++ (field (s.drop (uint s).2.1) 520).1
    let seq := (uint (s.drop ((uint s).2.1 + (field (s.drop (uint s).2.1) 520).2.1))).1
    if (s.getD n 0) = 1 then
      if (field (s.drop (n + 1)) 2048).2.2 ≠ 0 then none
      else some (⟨key, seq, 1, (field (s.drop (n + 1)) 2048).1⟩, n + 1 + (field (s.drop (n + 1)) 2048).2.1)
    else some (⟨key, seq, ((s.getD n 0).toNat : Int), []⟩, n + 1)
theorem read_enc' (r : Row) (base last rest : List UInt8) (h : check r = 0) (hcl : common base r.key ≤ last.length) (hct : last.take (common base r.key) = r.key.take (common base r.key)) : read (rowEnc r base ++ rest) last = some (r, (rowEnc r base).length) := by
  obtain ⟨hk, hne, hv, hs0, hs1, hkl, hvl⟩ := check_ok h
  have hc := common_le base r.key
  obtain ⟨K, hK⟩ : ∃ K, K = r.key.drop (common base r.key) := ⟨_, rfl⟩
  obtain ⟨T, hT⟩ : ∃ T, T = (if r.kind = 1 then putField r.value else []) := ⟨_, rfl⟩
  have hKl : K.length ≤ 520 := by rw [hK]; simp; omega
  have e0 : rowEnc r base ++ rest = putUint (common base r.key) ++ (putField K ++ (putUint r.seq ++ (UInt8.ofNat (r.kind % 256).toNat :: (T ++ rest)))) := by
    unfold rowEnc; rw [← hK, ← hT]; simp [List.append_assoc]
  have u1 := uint_put (n := common base r.key) (by omega) (putField K ++ (putUint r.seq ++ (UInt8.ofNat (r.kind % 256).toNat :: (T ++ rest))))
  have f1 := field_put K (putUint r.seq ++ (UInt8.ofNat (r.kind % 256).toNat :: (T ++ rest))) 520 (by omega) (by omega)
  have u2 := uint_put (n := r.seq) (by omega) (UInt8.ofNat (r.kind % 256).toNat :: (T ++ rest))
  have d1 : (rowEnc r base ++ rest).drop (putUint (common base r.key)).length = putField K ++ (putUint r.seq ++ (UInt8.ofNat (r.kind % 256).toNat :: (T ++ rest))) := by rw [e0, List.drop_left]
  have d2 : (rowEnc r base ++ rest).drop ((putUint (common base r.key)).length + (putField K).length) = putUint r.seq ++ (UInt8.ofNat (r.kind % 256).toNat :: (T ++ rest)) := by rw [← List.drop_drop, d1, List.drop_left]
  have d3 : (rowEnc r base ++ rest).drop ((putUint (common base r.key)).length + (putField K).length + (putUint r.seq).length) = UInt8.ofNat (r.kind % 256).toNat :: (T ++ rest) := by rw [← List.drop_drop, d2, List.drop_left]
  have d4 : (rowEnc r base ++ rest).drop ((putUint (common base r.key)).length + (putField K).length + (putUint r.seq).length + 1) = T ++ rest := by rw [← List.drop_drop, d3]; rfl
  have g : (rowEnc r base ++ rest).getD ((putUint (common base r.key)).length + (putField K).length + (putUint r.seq).length) 0 = UInt8.ofNat (r.kind % 256).toNat := by
    have := congrArg (fun l => l[0]?) d3
    simp only [List.getElem?_drop, Nat.add_zero, List.getElem?_cons_zero] at this
    rw [List.getD_eq_getElem?_getD, this]; rfl
  have lens : (rowEnc r base ++ rest).length = (putUint (common base r.key)).length + (putField K).length + (putUint r.seq).length + 1 + T.length + rest.length := by
    rw [e0]; simp; omega
  have lenr : (rowEnc r base).length = (putUint (common base r.key)).length + (putField K).length + (putUint r.seq).length + 1 + T.length := by
    rw [List.length_append] at lens; omega
  have hkey : last.take (common base r.key) ++ K = r.key := by rw [hK, hct, List.take_append_drop]
  have us : uint (rowEnc r base ++ rest) = (common base r.key, (putUint (common base r.key)).length, 0) := by rw [e0]; exact u1
  unfold read
  simp only [us, d1, f1, d2, u2, d4, g]
  rw [if_neg (by omega), if_neg (by simp), if_neg (by omega)]
  rcases hk with hk | hk
  · rw [hk] at hT ⊢
    rw [if_pos rfl] at hT
    have e1 : (UInt8.ofNat ((1 : Int) % 256).toNat) = 1 := rfl
    rw [e1, if_pos rfl, hT, field_put r.value rest 2048 (by omega) (by omega)]
    rw [if_neg (by simp), lenr, hT, hkey]
    congr 2
    cases r; simp_all
  · rw [hk] at hT ⊢
    rw [if_neg (by omega)] at hT
    have e1 : (UInt8.ofNat ((2 : Int) % 256).toNat) = 2 := rfl
    rw [e1, if_neg (by decide), lenr, hT, hkey]
    have hv := hv hk
    congr 2
    cases r; simp_all
theorem read_enc (r : Row) (last rest : List UInt8) (h : check r = 0) : read (rowEnc r last ++ rest) last = some (r, (rowEnc r last).length) :=
  read_enc' r last last rest h (common_le last r.key).1 (common_take last r.key)
theorem read_enc_any (r : Row) (last rest : List UInt8) (h : check r = 0) : read (rowEnc r [] ++ rest) last = some (r, (rowEnc r []).length) :=
  read_enc' r [] last rest h (by simp [common]) (by simp [common])
theorem rowEnc_pos (r : Row) (last : List UInt8) : 4 ≤ (rowEnc r last).length := by
  have a := putUint_pos (common last r.key)
  have b := putUint_pos (r.key.drop (common last r.key)).length
  have c := putUint_pos r.seq
  unfold rowEnc putField
  simp only [List.length_append, List.length_cons, List.length_nil]
  omega
/-! all rows -/
def enc (restart : Nat) : Nat → List UInt8 → List Row → List UInt8
  | _, _, [] => []
  | i, last, r :: l => rowEnc r (if i % restart = 0 then [] else last) ++ enc restart (i + 1) r.key l
/-- where the restarts begin -/
def ends (restart : Nat) : Nat → Nat → List UInt8 → List Row → List Nat
  | _, _, _, [] => []
  | i, off, last, r :: l => (if i % restart = 0 then [off] else []) ++ ends restart (i + 1) (off + (rowEnc r (if i % restart = 0 then [] else last)).length) r.key l
def four (n : Nat) : List UInt8 := [UInt8.ofNat (n % 256), UInt8.ofNat (n / 256 % 256), UInt8.ofNat (n / 65536 % 256), UInt8.ofNat (n / 16777216 % 256)]
def unfour (l : List UInt8) : Nat := (l.getD 0 0).toNat + 256 * (l.getD 1 0).toNat + 65536 * (l.getD 2 0).toNat + 16777216 * (l.getD 3 0).toNat
theorem four_length (n : Nat) : (four n).length = 4 := rfl
theorem unfour_four {n : Nat} (h : n < 4294967296) (l : List UInt8) : unfour (four n ++ l) = n := by
  unfold unfour four
  simp only [List.cons_append, List.nil_append, List.getD_cons_zero, List.getD_cons_succ]
  rw [toNat_ofNat_lt (by omega), toNat_ofNat_lt (by omega), toNat_ofNat_lt (by omega), toNat_ofNat_lt (by omega)]
  omega
def fours (l : List Nat) : List UInt8 := l.flatMap four
theorem fours_length (l : List Nat) : (fours l).length = 4 * l.length := by
  induction l with
  | nil => rfl
  | cons a l ih => simp only [fours, List.flatMap_cons, List.length_append, List.length_cons, four_length] at *; omega
def whole (l : List Row) (restart : Nat) : List UInt8 := enc restart 0 [] l ++ fours (ends restart 0 0 [] l) ++ four (ends restart 0 0 [] l).length ++ four restart
/-- bytes and error -/
def build (l : List Row) (restart : Int) : List UInt8 × Nat :=
  if restart < 1 ∨ 64 < restart ∨ order l = false ∨ (∃ r ∈ l, check r = 2) then ([], 2)
  else if 1024 < l.length ∨ (∃ r ∈ l, check r = 3) ∨ 65536 < (whole l restart.toNat).length then ([], 3)
  else (whole l restart.toNat, 0)
theorem build_ok {l : List Row} {restart : Int} {s : List UInt8} (h : build l restart = (s, 0)) :
    1 ≤ restart ∧ restart ≤ 64 ∧ order l = true ∧ (∀ r ∈ l, check r = 0) ∧ l.length ≤ 1024 ∧ s = whole l restart.toNat ∧ s.length ≤ 65536 := by
  unfold build at h
  split at h
  · simp at h
  · rename_i h1
    split at h
    · simp at h
    · rename_i h2
      simp only [Prod.mk.injEq, and_true] at h
      subst h
      refine ⟨by omega, by omega, ?_, fun r hr => ?_, by omega, rfl, by omega⟩
      · cases e : order l with
        | true => rfl
        | false => exact absurd (.inr (.inr (.inl e))) h1
      · have a : check r ≠ 2 := fun e => h1 (.inr (.inr (.inr ⟨r, hr, e⟩)))
        have b : check r ≠ 3 := fun e => h2 (.inr (.inl ⟨r, hr, e⟩))
        unfold check at a b ⊢
        split
        · simp_all
        · split <;> simp_all
theorem build_of {l : List Row} {restart : Int} (h1 : 1 ≤ restart) (h2 : restart ≤ 64) (h3 : order l = true) (h4 : ∀ r ∈ l, check r = 0) (h5 : l.length ≤ 1024) (h6 : (whole l restart.toNat).length ≤ 65536) : build l restart = (whole l restart.toNat, 0) := by
  unfold build
  rw [if_neg, if_neg]
  · rintro (h | ⟨r, hr, h⟩ | h)
    · omega
    · rw [h4 r hr] at h; omega
    · omega
  · rintro (h | h | h | ⟨r, hr, h⟩)
    · omega
    · omega
    · rw [h3] at h; cases h
    · rw [h4 r hr] at h; omega
theorem build_err (l : List Row) (restart : Int) : (build l restart).2 = 0 ∨ (build l restart).1 = [] := by
  unfold build; split
  · right; rfl
  · split
    · right; rfl
    · left; rfl
/-! reading -/
/-- rows of bytes, behind some that were read; none: ill formed -/
def decode : Nat → List UInt8 → List UInt8 → Nat → Option (List Row)
  | 0, _, _, _ => none
  | fuel + 1, body, last, have_ =>
    if body = [] then some []
    else match read body last with
      | none => none
      | some (r, n) => if have_ = 1024 then none else (decode fuel (body.drop n) r.key (have_ + 1)).map (r :: ·)
theorem decode_enc (restart : Nat) (l : List Row) : ∀ (fuel i : Nat) (last : List UInt8) (hv : Nat), l.length < fuel → (∀ r ∈ l, check r = 0) → hv + l.length ≤ 1024 →
    decode fuel (enc restart i last l) last hv = some l := by
  induction l with
  | nil =>
    intro fuel i last hv hf _ _
    obtain ⟨fuel, rfl⟩ : ∃ m, fuel = m + 1 := ⟨fuel - 1, by simp at hf; omega⟩
    simp [decode, enc]
  | cons r l ih =>
    intro fuel i last hv hf hc hn
    simp only [List.length_cons] at hf hn
    obtain ⟨fuel, rfl⟩ : ∃ m, fuel = m + 1 := ⟨fuel - 1, by omega⟩
    have hr := hc r List.mem_cons_self
    have hrd : read (enc restart i last (r :: l)) last = some (r, (rowEnc r (if i % restart = 0 then [] else last)).length) := by
      simp only [enc]
      split
      · exact read_enc_any r last _ hr
      · exact read_enc r last _ hr
    have hne : enc restart i last (r :: l) ≠ [] := by
      have := rowEnc_pos r (if i % restart = 0 then [] else last)
      intro e
      have := congrArg List.length e
      simp only [enc, List.length_append, List.length_nil] at this
      omega
    have hd : (enc restart i last (r :: l)).drop (rowEnc r (if i % restart = 0 then [] else last)).length = enc restart (i + 1) r.key l := by
      simp only [enc]; rw [List.drop_left]
    rw [decode, if_neg hne, hrd]
    simp only
    rw [if_neg (by omega), hd, ih fuel (i + 1) r.key (hv + 1) (by omega) (fun x hx => hc x (List.mem_cons_of_mem _ hx)) (by omega)]
    rfl
/-- bytes that end in what is told, read as rows -/
def body (s : List UInt8) : List UInt8 := s.take (s.length - 8 - 4 * unfour (s.drop (s.length - 8)))
def rows (s : List UInt8) : List Row × Nat :=
  if s.length < 8 ∨ 65536 < s.length ∨ (s.length - 8) / 4 < unfour (s.drop (s.length - 8)) then ([], 7)
  else match decode (s.length + 1) (body s) [] 0 with
    | none => ([], 7)
    | some l => if build l (unfour (s.drop (s.length - 4)) : Int) = (s, 0) then (l, 0) else ([], 7)

theorem enc_length_le (restart : Nat) (l : List Row) : ∀ (i : Nat) (last : List UInt8), l.length ≤ (enc restart i last l).length := by
  induction l with
  | nil => intro i last; simp [enc]
  | cons r l ih =>
    intro i last
    have := ih (i + 1) r.key
    have := rowEnc_pos r (if i % restart = 0 then [] else last)
    simp only [enc, List.length_append, List.length_cons]
    omega
theorem ends_length_le (restart : Nat) (l : List Row) : ∀ (i off : Nat) (last : List UInt8), (ends restart i off last l).length ≤ l.length := by
  induction l with
  | nil => intro i off last; simp [ends]
  | cons r l ih =>
    intro i off last
    have := ih (i + 1) (off + (rowEnc r (if i % restart = 0 then [] else last)).length) r.key
    have h2 : (if i % restart = 0 then [off] else []).length ≤ 1 := by split <;> simp
    simp only [ends, List.length_append, List.length_cons]
    omega
theorem whole_length (l : List Row) (restart : Nat) : (whole l restart).length = (enc restart 0 [] l).length + 4 * (ends restart 0 0 [] l).length + 8 := by
  unfold whole
  simp only [List.length_append, fours_length, four_length]
/-- the three parts of a whole block -/
theorem whole_body (l : List Row) (restart : Nat) (h : l.length ≤ 1024) : body (whole l restart) = enc restart 0 [] l ∧ unfour ((whole l restart).drop ((whole l restart).length - 8)) = (ends restart 0 0 [] l).length := by
  have e1 : (whole l restart).drop ((whole l restart).length - 8) = four (ends restart 0 0 [] l).length ++ four restart := by
    rw [whole_length]
    unfold whole
    rw [show (enc restart 0 [] l).length + 4 * (ends restart 0 0 [] l).length + 8 - 8 = (enc restart 0 [] l ++ fours (ends restart 0 0 [] l)).length by simp [fours_length]]
    rw [List.append_assoc (enc restart 0 [] l ++ fours (ends restart 0 0 [] l)), List.drop_left]
  have hn := ends_length_le restart l 0 0 []
  have e2 : unfour ((whole l restart).drop ((whole l restart).length - 8)) = (ends restart 0 0 [] l).length := by
    rw [e1, unfour_four (by omega)]
  refine ⟨?_, e2⟩
  unfold body
  rw [e2, whole_length]
  rw [show (enc restart 0 [] l).length + 4 * (ends restart 0 0 [] l).length + 8 - 8 - 4 * (ends restart 0 0 [] l).length = (enc restart 0 [] l).length by omega]
  unfold whole
  rw [List.append_assoc, List.append_assoc, List.take_left]
theorem whole_restart (l : List Row) (restart : Nat) (h : restart < 4294967296) : unfour ((whole l restart).drop ((whole l restart).length - 4)) = restart := by
  have e1 : (whole l restart).drop ((whole l restart).length - 4) = four restart := by
    have : (whole l restart).length - 4 = (enc restart 0 [] l ++ fours (ends restart 0 0 [] l) ++ four (ends restart 0 0 [] l).length).length := by
      rw [whole_length]; simp [fours_length, four_length]; omega
    rw [this]
    unfold whole
    rw [List.drop_left]
  rw [e1]
  have := unfour_four h []
  rwa [List.append_nil] at this
theorem rows_build {l : List Row} {restart : Int} {s : List UInt8} (h : build l restart = (s, 0)) : rows s = (l, 0) := by
  obtain ⟨h1, h2, h3, h4, h5, rfl, h7⟩ := build_ok h
  obtain ⟨e1, e2⟩ := whole_body l restart.toNat h5
  have e3 := whole_restart l restart.toNat (by omega)
  have hl := whole_length l restart.toNat
  have hle := enc_length_le restart.toNat l 0 []
  unfold rows
  rw [if_neg (by rw [e2]; omega), e1, decode_enc restart.toNat l _ 0 [] 0 (by omega) h4 (by omega)]
  simp only
  rw [e3, show ((restart.toNat : Nat) : Int) = restart by omega, if_pos h]
theorem rows_ok {s : List UInt8} {l : List Row} (h : rows s = (l, 0)) : build l (unfour (s.drop (s.length - 4)) : Int) = (s, 0) := by
  unfold rows at h
  split at h
  · simp at h
  · split at h
    · simp at h
    · split at h
      · rename_i hb
        simp only [Prod.mk.injEq, and_true] at h
        subst h
        exact hb
      · simp at h
theorem rows_err (s : List UInt8) : (rows s).2 = 0 ∨ rows s = ([], 7) := by
  unfold rows
  split
  · right; rfl
  · split
    · right; rfl
    · split
      · left; rfl
      · right; rfl
/-! from a place on -/
def place : List Row → List UInt8 → Nat → Nat
  | r :: l, k, s => if ahead r k s then place l k s + 1 else 0
  | [], _, _ => 0
theorem place_le (l : List Row) (k : List UInt8) (s : Nat) : place l k s ≤ l.length := by
  induction l with
  | nil => simp [place]
  | cons r l ih => unfold place; split <;> simp <;> omega
theorem place_ahead {l : List Row} {k : List UInt8} {s : Nat} {i : Nat} (hi : i < place l k s) (hl : i < l.length) : ahead l[i] k s = true := by
  induction l generalizing i with
  | nil => simp at hl
  | cons r l ih =>
    unfold place at hi
    split at hi
    · rename_i h
      cases i with
      | zero => exact h
      | succ i => exact ih (by omega) (by simpa using hl)
    · omega
theorem place_stop {l : List Row} {k : List UInt8} {s : Nat} (h : place l k s < l.length) : ahead (l[place l k s]) k s = false := by
  induction l with
  | nil => simp at h
  | cons r l ih =>
    unfold place at h
    by_cases e : ahead r k s = true
    · have e1 : place (r :: l) k s = place l k s + 1 := by rw [place, if_pos e]
      simp only [e1, List.getElem_cons_succ]
      exact ih (by rw [if_pos e] at h; simpa using h)
    · have e1 : place (r :: l) k s = 0 := by rw [place, if_neg e]
      simp only [e1, List.getElem_cons_zero]
      simpa using e
/-- in order: just the first ones stand ahead -/
theorem place_iff {l : List Row} (h : order l = true) (k : List UInt8) (s : Nat) {i : Nat} (hi : i < l.length) : ahead l[i] k s = true ↔ i < place l k s := by
  constructor
  · intro ha
    rcases Nat.lt_or_ge i (place l k s) with g | g
    · exact g
    · have hp : place l k s < l.length := by omega
      have hs := place_stop hp
      rcases Nat.eq_or_lt_of_le g with e | e
      · simp only [e] at hs; rw [ha] at hs; cases hs
      · have := ahead_trans (order_at h e hi) ha
        rw [hs] at this; cases this
  · intro g; exact place_ahead g hi
theorem place_own {l : List Row} (h : order l = true) {i : Nat} (hi : i < l.length) : place l l[i].key l[i].seq = i := by
  have a : ¬ i < place l l[i].key l[i].seq := fun g => by
    have := place_ahead g hi
    rw [ahead_irrefl] at this; cases this
  rcases Nat.lt_or_ge (place l l[i].key l[i].seq) i with g | g
  · have h1 := order_at h g hi
    have h2 := place_stop (l := l) (k := l[i].key) (s := l[i].seq) (by omega)
    rw [h1] at h2; cases h2
  · omega
/-- a scan that begins at a row not behind the place comes to it -/
theorem place_drop {l : List Row} (h : order l = true) (k : List UInt8) (s : Nat) {n : Nat} (hn : n ≤ place l k s) : n + place (l.drop n) k s = place l k s := by
  induction n generalizing l with
  | zero => simp
  | succ n ih =>
    cases l with
    | nil => simp [place] at hn
    | cons r l =>
      rw [place] at hn ⊢
      split at hn
      · rename_i e
        rw [if_pos e]
        have := ih (order_tail h) (by omega)
        simp only [List.drop_succ_cons]
        omega
      · omega
def seek (s : List UInt8) (k : List UInt8) (n : Nat) : List Row × Nat :=
  if (rows s).2 ≠ 0 then ([], (rows s).2) else ((rows s).1.drop (place (rows s).1 k n), 0)
/-! fewer rows -/
theorem enc_append (restart : Nat) (l m : List Row) : ∀ (i : Nat) (last : List UInt8), ∃ x, enc restart i last (l ++ m) = enc restart i last l ++ x ∧ m.length ≤ x.length := by
  induction l with
  | nil => intro i last; exact ⟨_, rfl, enc_length_le restart m i last⟩
  | cons r l ih =>
    intro i last
    obtain ⟨x, hx, hm⟩ := ih (i + 1) r.key
    exact ⟨x, by simp only [List.cons_append, enc]; rw [hx, List.append_assoc], hm⟩
theorem ends_append (restart : Nat) (l m : List Row) : ∀ (i off : Nat) (last : List UInt8), ∃ x, ends restart i off last (l ++ m) = ends restart i off last l ++ x := by
  induction l with
  | nil => intro i off last; exact ⟨_, rfl⟩
  | cons r l ih =>
    intro i off last
    obtain ⟨x, hx⟩ := ih (i + 1) (off + (rowEnc r (if i % restart = 0 then [] else last)).length) r.key
    exact ⟨x, by simp only [List.cons_append, ends]; rw [hx, List.append_assoc]⟩
theorem whole_grows (l m : List Row) (restart : Nat) : (whole l restart).length + m.length ≤ (whole (l ++ m) restart).length := by
  obtain ⟨x, hx, hm⟩ := enc_append restart l m 0 []
  obtain ⟨y, hy⟩ := ends_append restart l m 0 0 []
  rw [whole_length, whole_length, hx, hy]
  simp only [List.length_append]
  omega
theorem build_take {l : List Row} {restart : Int} {s : List UInt8} (h : build l restart = (s, 0)) (n : Nat) (hn : n ≤ l.length) :
    ∃ t, build (l.take n) restart = (t, 0) ∧ t.length + (l.length - n) ≤ s.length := by
  obtain ⟨h1, h2, h3, h4, h5, rfl, h7⟩ := build_ok h
  have g := whole_grows (l.take n) (l.drop n) restart.toNat
  rw [List.take_append_drop, List.length_drop] at g
  exact ⟨_, build_of h1 h2 (order_take h3 n) (fun r hr => h4 r (List.mem_of_mem_take hr)) (by simp; omega) (by omega), g⟩
end PBlock
