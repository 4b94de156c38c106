/- Plain theory (PKeys), without any program. -/
import Derived.Test.YtjlpliapofndcaaPCode
import Derived.Test.YtjlpliapofndcaaPBlock
namespace PKeys
open PCode
structure K where
  state : Int
  group : Int
  key : List UInt8
  space : List UInt8
  sub : List UInt8
def check (k : K) : Nat :=
  if k.state < 0 ∨ 63 < k.state ∨ k.group < 0 ∨ 63 < k.group then 2
  else if 64 < k.key.length ∨ 64 < k.space.length ∨ 64 < k.sub.length then 3 else 0
theorem check_ok {k : K} (h : check k = 0) : 0 ≤ k.state ∧ k.state ≤ 63 ∧ 0 ≤ k.group ∧ k.group ≤ 63 ∧ k.key.length ≤ 64 ∧ k.space.length ≤ 64 ∧ k.sub.length ≤ 64 := by
  unfold check at h
  split at h
  · omega
  · split at h
    · omega
    · omega
def by1 (n : Int) : UInt8 := UInt8.ofNat (n % 256).toNat
theorem by1_nat {n : Int} (h0 : 0 ≤ n) (h1 : n ≤ 255) : (by1 n).toNat = n.toNat := by
  unfold by1
  rw [toNat_ofNat_lt (by omega)]; omega
theorem by1_inj {m n : Int} (h0 : 0 ≤ m) (h1 : m ≤ 255) (h2 : 0 ≤ n) (h3 : n ≤ 255) (h : by1 m = by1 n) : m = n := by
  have a := by1_nat h0 h1
  have b := by1_nat h2 h3
  rw [h] at a; omega
def enc (k : K) : List UInt8 := by1 k.state :: by1 k.group :: (putText k.key ++ (putText k.space ++ k.sub))
def encode (k : K) : List UInt8 × Nat := if check k ≠ 0 then ([], check k) else (enc k, 0)
def none_ : K := ⟨0, 0, [], [], []⟩
def decoded (s : List UInt8) : K :=
  ⟨((s.getD 0 0).toNat : Int), ((s.getD 1 0).toNat : Int), (text (s.drop 2)).1, (text (s.drop (2 + (text (s.drop 2)).2.1))).1, s.drop (2 + (text (s.drop 2)).2.1 + (text (s.drop (2 + (text (s.drop 2)).2.1))).2.1)⟩
def decode (s : List UInt8) : K × Nat :=
  if s.length < 2 ∨ (text (s.drop 2)).2.2 ≠ 0 ∨ (text (s.drop (2 + (text (s.drop 2)).2.1))).2.2 ≠ 0 ∨ check (decoded s) ≠ 0 then (none_, 7) else (decoded s, 0)
theorem decode_enc {k : K} (h : check k = 0) : decode (enc k) = (k, 0) := by
  obtain ⟨h1, h2, h3, h4, h5, h6, h7⟩ := check_ok h
  have d2 : (enc k).drop 2 = putText k.key ++ (putText k.space ++ k.sub) := rfl
  have t1 := text_put k.key (putText k.space ++ k.sub)
  have d3 : (enc k).drop (2 + (putText k.key).length) = putText k.space ++ k.sub := by rw [← List.drop_drop, d2, List.drop_left]
  have t2 := text_put k.space k.sub
  have d4 : (enc k).drop (2 + (putText k.key).length + (putText k.space).length) = k.sub := by rw [← List.drop_drop, d3, List.drop_left]
  have e : decoded (enc k) = k := by
    unfold decoded
    rw [d2, t1, d3, t2, d4]
    have a : (enc k).getD 0 0 = by1 k.state := rfl
    have b : (enc k).getD 1 0 = by1 k.group := rfl
    rw [a, b, by1_nat h1 (by omega), by1_nat h3 (by omega)]
    cases k; simp at *; omega
  unfold decode
  rw [e, d2, t1, d3, t2, h, if_neg]
  simp [enc]
/-! -1, 0, 1 -/
def cmpI (a b : Int) : Int := if a < b then -1 else if b < a then 1 else 0
def cmpT (a b : List UInt8) : Int := if lt a b then -1 else if lt b a then 1 else 0
def thenC (c d : Int) : Int := if c ≠ 0 then c else d
def cmp (a b : K) : Int := thenC (thenC (thenC (thenC (cmpI a.state b.state) (cmpI a.group b.group)) (cmpT a.key b.key)) (cmpT a.space b.space)) (cmpT a.sub b.sub)
/-- what a comparison of three ways is -/
structure Cmp {α : Type} (c : α → α → Int) : Prop where
  neg : ∀ a b, c a b = -c b a
  lo : ∀ a b, -1 ≤ c a b ∧ c a b ≤ 1
  zero : ∀ a b, c a b = 0 ↔ a = b
  trans : ∀ a b d, c a b < 0 → c b d < 0 → c a d < 0
theorem cmpI_cmp : Cmp cmpI := by
  refine ⟨fun a b => ?_, fun a b => ?_, fun a b => ?_, fun a b d => ?_⟩
  · unfold cmpI; split <;> split <;> omega
  · unfold cmpI; split <;> (try split) <;> omega
  · unfold cmpI; split <;> (try split) <;> omega
  · unfold cmpI; intro h1 h2
    split at h1
    · split at h2
      · rw [if_pos (by omega)]; omega
      · split at h2 <;> omega
    · split at h1 <;> omega
theorem cmpT_neg {a b : List UInt8} : cmpT a b < 0 ↔ lt a b = true := by
  unfold cmpT
  split
  · rename_i h; simp [h]
  · rename_i h; split <;> simp [h]
theorem cmpT_cmp : Cmp cmpT := by
  refine ⟨fun a b => ?_, fun a b => ?_, fun a b => ?_, fun a b d h1 h2 => ?_⟩
  · unfold cmpT
    by_cases h : lt a b = true
    · have := PBlock.lt_asymm h; simp [h, this]
    · by_cases g : lt b a = true <;> simp [h, g]
  · unfold cmpT; split <;> (try split) <;> omega
  · unfold cmpT
    rcases PBlock.lt_total a b with h | h | h
    · have : a ≠ b := by rintro rfl; rw [lt_irrefl] at h; cases h
      simp [h, this]
    · subst h; simp [lt_irrefl]
    · have h2 := PBlock.lt_asymm h
      have : a ≠ b := by rintro rfl; rw [lt_irrefl] at h; cases h
      simp [h, h2, this]
  · rw [cmpT_neg] at *; exact PBlock.lt_trans h1 h2
theorem cmp_iff (a b : K) : cmp a b < 0 ↔ a.state < b.state ∨ (a.state = b.state ∧ (a.group < b.group ∨ (a.group = b.group ∧ (lt a.key b.key = true ∨ (a.key = b.key ∧ (lt a.space b.space = true ∨ (a.space = b.space ∧ lt a.sub b.sub = true))))))) := by
  have hs := cmpI_cmp.zero a.state b.state
  have hg := cmpI_cmp.zero a.group b.group
  have hk := cmpT_cmp.zero a.key b.key
  have hp := cmpT_cmp.zero a.space b.space
  have ls : cmpI a.state b.state < 0 ↔ a.state < b.state := by unfold cmpI; split <;> (try split) <;> omega
  have lg : cmpI a.group b.group < 0 ↔ a.group < b.group := by unfold cmpI; split <;> (try split) <;> omega
  have lk := cmpT_neg (a := a.key) (b := b.key)
  have lp := cmpT_neg (a := a.space) (b := b.space)
  have lu := cmpT_neg (a := a.sub) (b := b.sub)
  rw [← lk, ← lp, ← lu, ← ls, ← lg, ← hs, ← hg, ← hk, ← hp]
  unfold cmp thenC
  generalize cmpI a.state b.state = p
  generalize cmpI a.group b.group = q
  generalize cmpT a.key b.key = r
  generalize cmpT a.space b.space = s
  generalize cmpT a.sub b.sub = t
  by_cases h1 : p = 0 <;> by_cases h2 : q = 0 <;> by_cases h3 : r = 0 <;> by_cases h4 : s = 0 <;> simp [h1, h2, h3, h4]
theorem cmp_cmp : Cmp cmp := by
  refine ⟨fun a b => ?_, fun a b => ?_, fun a b => ?_, fun a b d h1 h2 => ?_⟩
  · unfold cmp
    rw [cmpI_cmp.neg a.state, cmpI_cmp.neg a.group, cmpT_cmp.neg a.key, cmpT_cmp.neg a.space, cmpT_cmp.neg a.sub]
    unfold thenC
    repeat' split
    all_goals omega
  · have a1 := cmpI_cmp.lo a.state b.state
    have a2 := cmpI_cmp.lo a.group b.group
    have a3 := cmpT_cmp.lo a.key b.key
    have a4 := cmpT_cmp.lo a.space b.space
    have a5 := cmpT_cmp.lo a.sub b.sub
    unfold cmp thenC
    repeat' split
    all_goals omega
  · have a1 := cmpI_cmp.zero a.state b.state
    have a2 := cmpI_cmp.zero a.group b.group
    have a3 := cmpT_cmp.zero a.key b.key
    have a4 := cmpT_cmp.zero a.space b.space
    have a5 := cmpT_cmp.zero a.sub b.sub
    have e : a = b ↔ a.state = b.state ∧ a.group = b.group ∧ a.key = b.key ∧ a.space = b.space ∧ a.sub = b.sub := by
      cases a; cases b; simp
    rw [e, ← a1, ← a2, ← a3, ← a4, ← a5]
    unfold cmp thenC
    generalize cmpI a.state b.state = p
    generalize cmpI a.group b.group = q
    generalize cmpT a.key b.key = r
    generalize cmpT a.space b.space = s
    generalize cmpT a.sub b.sub = t
    by_cases h1 : p = 0 <;> by_cases h2 : q = 0 <;> by_cases h3 : r = 0 <;> by_cases h4 : s = 0 <;> simp [h1, h2, h3, h4]
  · rw [cmp_iff] at *
    rcases h1 with h1 | ⟨e1, h1⟩ <;> rcases h2 with h2 | ⟨f1, h2⟩
    · left; omega
    · left; omega
    · left; omega
    · right; refine ⟨by omega, ?_⟩
      rcases h1 with h1 | ⟨e2, h1⟩ <;> rcases h2 with h2 | ⟨f2, h2⟩
      · left; omega
      · left; omega
      · left; omega
      · right; refine ⟨by omega, ?_⟩
        rcases h1 with h1 | ⟨e3, h1⟩ <;> rcases h2 with h2 | ⟨f3, h2⟩
        · left; exact PBlock.lt_trans h1 h2
        · left; rw [← f3]; exact h1
        · left; rw [e3]; exact h2
        · right; refine ⟨e3.trans f3, ?_⟩
          rcases h1 with h1 | ⟨e4, h1⟩ <;> rcases h2 with h2 | ⟨f4, h2⟩
          · left; exact PBlock.lt_trans h1 h2
          · left; rw [← f4]; exact h1
          · left; rw [e4]; exact h2
          · right; exact ⟨e4.trans f4, PBlock.lt_trans h1 h2⟩
/-- written in order -/
theorem lt_enc {a b : K} (ha : check a = 0) (hb : check b = 0) : lt (enc a) (enc b) = decide (cmp a b < 0) := by
  obtain ⟨a1, a2, a3, a4, _⟩ := check_ok ha
  obtain ⟨b1, b2, b3, b4, _⟩ := check_ok hb
  have hs : by1 a.state < by1 b.state ↔ a.state < b.state := by
    rw [UInt8.lt_iff_toNat_lt, by1_nat a1 (by omega), by1_nat b1 (by omega)]; omega
  have hg : by1 a.group < by1 b.group ↔ a.group < b.group := by
    rw [UInt8.lt_iff_toNat_lt, by1_nat a3 (by omega), by1_nat b3 (by omega)]; omega
  have es : by1 a.state = by1 b.state ↔ a.state = b.state := ⟨by1_inj a1 (by omega) b1 (by omega), fun e => by rw [e]⟩
  have eg : by1 a.group = by1 b.group ↔ a.group = b.group := ⟨by1_inj a3 (by omega) b3 (by omega), fun e => by rw [e]⟩
  have ht : lt (putText a.key ++ (putText a.space ++ a.sub)) (putText b.key ++ (putText b.space ++ b.sub)) = true ↔ (lt a.key b.key = true ∨ (a.key = b.key ∧ (lt a.space b.space = true ∨ (a.space = b.space ∧ lt a.sub b.sub = true)))) := by
    by_cases e : a.key = b.key
    · rw [e, lt_append _ _ _ _ rfl, lt_irrefl]
      simp only [lt_irrefl]
      by_cases f : a.space = b.space
      · rw [f, lt_append _ _ _ _ rfl, lt_irrefl]; simp [lt_irrefl]
      · rw [lt_text _ _ _ _ f]; simp [f]
    · rw [lt_text _ _ _ _ e]; simp [e]
  rw [Bool.eq_iff_iff]
  simp only [decide_eq_true_eq, enc, lt_cons, Bool.or_eq_true, Bool.and_eq_true, beq_iff_eq]
  rw [cmp_iff, hs, hg, es, eg, ht]
/-! ranges -/
/-- behind all that begin with these bytes, the last of which is not 255 -/
def next : List UInt8 → List UInt8
  | [] => []
  | [c] => [c + 1]
  | c :: d :: l => c :: next (d :: l)
theorem next_snoc (p : List UInt8) (c : UInt8) : next (p ++ [c]) = p ++ [c + 1] := by
  induction p with
  | nil => rfl
  | cons d p ih =>
    cases p with
    | nil => rfl
    | cons e p => simp only [List.cons_append] at ih ⊢; rw [next, ih]
theorem next_iff (p : List UInt8) (c : UInt8) (hc : c ≠ 255) (s : List UInt8) : (lt s (p ++ [c]) = false ∧ lt s (p ++ [c + 1]) = true) ↔ ∃ x, s = p ++ [c] ++ x := by
  have hc1 : c.toNat < 255 := by
    have := c.toNat_lt
    have : c.toNat ≠ 255 := fun e => hc (UInt8.toNat_inj.mp e)
    omega
  have hc2 : (c + 1).toNat = c.toNat + 1 := by rw [UInt8.toNat_add]; simp; omega
  induction p generalizing s with
  | nil =>
    cases s with
    | nil => simp [lt_nil_left]
    | cons d s =>
      simp only [List.nil_append, lt_cons, lt_nil_right, Bool.and_false, Bool.or_false, decide_eq_false_iff_not, decide_eq_true_eq, List.cons_append, List.cons.injEq]
      rw [UInt8.lt_iff_toNat_lt, UInt8.lt_iff_toNat_lt, hc2]
      constructor
      · rintro ⟨h1, h2⟩; exact ⟨s, UInt8.toNat_inj.mp (by omega), rfl⟩
      · rintro ⟨x, rfl, rfl⟩; omega
  | cons q p ih =>
    cases s with
    | nil => simp [lt_nil_left]
    | cons d s =>
      simp only [List.cons_append, lt_cons, Bool.or_eq_false_iff, Bool.or_eq_true, decide_eq_false_iff_not, decide_eq_true_eq, Bool.and_eq_true, Bool.and_eq_false_iff, beq_iff_eq, beq_eq_false_iff_ne, List.cons.injEq]
      rw [UInt8.lt_iff_toNat_lt]
      constructor
      · rintro ⟨⟨h1, h2⟩, h3⟩
        rcases h3 with h3 | ⟨rfl, h3⟩
        · exact absurd h3 h1
        · rcases h2 with h2 | h2
          · exact absurd rfl h2
          · obtain ⟨x, rfl⟩ := (ih s).1 ⟨h2, h3⟩
            exact ⟨x, rfl, by simp⟩
      · rintro ⟨x, rfl, rfl⟩
        obtain ⟨a, b⟩ := (ih (p ++ [c] ++ x)).2 ⟨x, rfl⟩
        simp only [List.append_assoc, List.cons_append, List.nil_append] at a b ⊢
        exact ⟨⟨by omega, .inr a⟩, .inr ⟨trivial, b⟩⟩
/-- two ranges of bytes of which none begins the other lie apart -/
theorem ranges_apart {p q : List UInt8} {c d : UInt8} (hc : c ≠ 255) (h : lt (p ++ [c]) (q ++ [d]) = true) (hn : ¬ ∃ x, q ++ [d] = p ++ [c] ++ x) : lt (q ++ [d]) (p ++ [c + 1]) = false := by
  cases e : lt (q ++ [d]) (p ++ [c + 1]) with
  | false => rfl
  | true => exact absurd ((next_iff p c hc (q ++ [d])).1 ⟨PBlock.lt_asymm h, e⟩) hn
theorem range_nest {p q : List UInt8} {c d : UInt8} (hc : c ≠ 255) (x : List UInt8) (h : q ++ [d + 1] = p ++ [c] ++ x) : lt (p ++ [c + 1]) (q ++ [d + 1]) = false :=
  PBlock.lt_asymm ((next_iff p c hc _).2 ⟨x, h⟩).2
theorem lt_begin (p x : List UInt8) : lt (p ++ x) p = false := by
  have := lt_append p p x [] rfl
  rw [List.append_nil, lt_irrefl, lt_nil_right] at this
  simpa using this
/-- the first parts of a state's key -/
def first (k : K) (parts : Nat) : List UInt8 :=
  by1 k.state :: ((if 1 < parts then [by1 k.group] else []) ++ ((if 2 < parts then putText k.key else []) ++ (if 3 < parts then putText k.space else [])))
def rangeErr (k : K) (parts : Int) : Nat :=
  if parts < 1 ∨ 4 < parts ∨ k.state < 0 ∨ 63 < k.state ∨ (1 < parts ∧ (k.group < 0 ∨ 63 < k.group)) then 2
  else if (2 < parts ∧ 64 < k.key.length) ∨ (3 < parts ∧ 64 < k.space.length) then 3 else 0
def range (k : K) (parts : Int) : List UInt8 × List UInt8 × Nat :=
  if rangeErr k parts ≠ 0 then ([], [], rangeErr k parts) else (first k parts.toNat, next (first k parts.toNat), 0)
end PKeys
