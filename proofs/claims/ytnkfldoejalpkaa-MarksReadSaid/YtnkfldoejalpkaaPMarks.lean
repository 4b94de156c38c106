/- Plain theory (PMarks), without any program. -/
import Derived.Test.YtnkfldoejalpkaaPCode
namespace PMarks
open PCode
def T : Int := 1125899906842624
def Span : Int := 1099511627776
abbrev Src := Int × Bool
structure St where
  bound : Int
  l : List Src
  now : Int
def least : List Src → Option Int
  | [] => none
  | (m, idle) :: l => if idle then least l else match least l with
    | none => some m
    | some x => some (if m ≤ x then m else x)
def mxo (now : Int) : Option Int → Int
  | none => now
  | some x => if now < x then x else now
def put (s : St) (k : Nat) (x : Src) : St := { s with l := s.l.set k x, now := mxo s.now (least (s.l.set k x)) }
def mk0 (n : Nat) (bound : Int) : St := ⟨bound, List.replicate n (-T, false), -T⟩
def mx (a b : Int) : Int := if a < b then b else a
def tell (s : St) (k : Nat) (t : Int) : St := put s k (mx (s.l.getD k (0, false)).1 t, false)
def rest (s : St) (k : Nat) : St := put s k ((s.l.getD k (0, false)).1, true)
/-- what marks always are -/
def Ok (s : St) : Prop := mxo s.now (least s.l) = s.now
theorem mxo_le (now : Int) (o : Option Int) : now ≤ mxo now o := by cases o <;> simp [mxo]; split <;> omega
theorem mxo_idem (now : Int) (o : Option Int) : mxo (mxo now o) o = mxo now o := by
  cases o with
  | none => rfl
  | some x => simp only [mxo]; split <;> (try split) <;> omega
theorem put_ok (s : St) (k : Nat) (x : Src) : Ok (put s k x) := mxo_idem _ _
theorem mk0_least (n : Nat) : least (List.replicate n ((-T, false) : Src)) = if n = 0 then none else some (-T) := by
  induction n with
  | zero => rfl
  | succ n ih =>
    rw [List.replicate_succ]
    simp only [least]
    rw [ih]
    by_cases h : n = 0
    · simp [h]
    · simp [h]
theorem mk0_ok (n : Nat) (b : Int) : Ok (mk0 n b) := by
  unfold Ok mk0
  dsimp only
  rw [mk0_least]
  split
  · rfl
  · simp [mxo]
/-- where nothing changes nothing need be asked -/
theorem put_same {s : St} (h : Ok s) {k : Nat} {x : Src} (e : s.l.set k x = s.l) : put s k x = s := by
  unfold put
  rw [e]
  unfold Ok at h
  rw [h]
theorem put_put (s : St) (k : Nat) (x : Src) : put (put s k x) k x = put s k x := by
  apply put_same (put_ok s k x)
  unfold put; simp
theorem tell_tell (s : St) (k : Nat) (t : Int) (hk : k < s.l.length) : tell (tell s k t) k t = tell s k t := by
  have e : (tell s k t).l.getD k (0, false) = (mx (s.l.getD k (0, false)).1 t, false) := by
    simp [tell, put, hk]
  unfold tell at e ⊢
  rw [e]
  have : mx (mx (s.l.getD k (0, false)).1 t) t = mx (s.l.getD k (0, false)).1 t := by unfold mx; split <;> (try split) <;> omega
  dsimp only
  rw [this]
  exact put_put _ _ _
theorem rest_rest (s : St) (k : Nat) (hk : k < s.l.length) : rest (rest s k) k = rest s k := by
  have e : (rest s k).l.getD k (0, false) = ((s.l.getD k (0, false)).1, true) := by simp [rest, put, hk]
  unfold rest at e ⊢
  rw [e]
  exact put_put _ _ _
theorem put_length (s : St) (k : Nat) (x : Src) : (put s k x).l.length = s.l.length := by simp [put]
theorem put_now (s : St) (k : Nat) (x : Src) : s.now ≤ (put s k x).now := mxo_le _ _
/-! the least -/
theorem least_le {l : List Src} {x : Int} (h : least l = some x) {m : Int} (hm : (m, false) ∈ l) : x ≤ m := by
  induction l generalizing x with
  | nil => cases hm
  | cons a l ih =>
    obtain ⟨am, ai⟩ := a
    unfold least at h
    cases ai with
    | true =>
      simp only [if_true] at h
      rcases List.mem_cons.1 hm with e | e
      · cases e
      · exact ih h e
    | false =>
      simp only [Bool.false_eq_true, if_false] at h
      cases hl : least l with
      | none =>
        rw [hl] at h
        simp only [Option.some.injEq] at h
        rcases List.mem_cons.1 hm with e | e
        · cases e; omega
        · exfalso
          clear ih h hm
          induction l with
          | nil => cases e
          | cons b l ihl =>
            obtain ⟨bm, bi⟩ := b
            unfold least at hl
            cases bi with
            | true =>
              simp only [if_true] at hl
              rcases List.mem_cons.1 e with f | f
              · cases f
              · exact ihl hl f
            | false =>
              simp only [Bool.false_eq_true, if_false] at hl
              split at hl <;> cases hl
      | some y =>
        rw [hl] at h
        simp only [Option.some.injEq] at h
        rcases List.mem_cons.1 hm with e | e
        · cases e; split at h <;> omega
        · have := ih hl e; split at h <;> omega
theorem least_mem {l : List Src} {x : Int} (h : least l = some x) : (x, false) ∈ l := by
  induction l generalizing x with
  | nil => cases h
  | cons a l ih =>
    obtain ⟨am, ai⟩ := a
    unfold least at h
    cases ai with
    | true => simp only [if_true] at h; exact List.mem_cons_of_mem _ (ih h)
    | false =>
      simp only [Bool.false_eq_true, if_false] at h
      cases hl : least l with
      | none => rw [hl] at h; simp only [Option.some.injEq] at h; subst h; exact List.mem_cons_self
      | some y =>
        rw [hl] at h
        simp only [Option.some.injEq] at h
        split at h
        · subst h; exact List.mem_cons_self
        · subst h; exact List.mem_cons_of_mem _ (ih hl)
theorem least_none {l : List Src} (h : least l = none) (m : Int) : (m, false) ∉ l := by
  intro e
  induction l with
  | nil => cases e
  | cons b l ihl =>
    obtain ⟨bm, bi⟩ := b
    unfold least at h
    cases bi with
    | true =>
      simp only [if_true] at h
      rcases List.mem_cons.1 e with f | f
      · cases f
      · exact ihl h f
    | false =>
      simp only [Bool.false_eq_true, if_false] at h
      split at h <;> cases h
/-- the least hangs on what is in the list, not on its order -/
theorem least_perm {l m : List Src} (h : ∀ x, x ∈ l ↔ x ∈ m) : least l = least m := by
  cases hl : least l with
  | none =>
    cases hm : least m with
    | none => rfl
    | some y => exact absurd ((h _).2 (least_mem hm)) (least_none hl y)
  | some x =>
    cases hm : least m with
    | none => exact absurd ((h _).1 (least_mem hl)) (least_none hm x)
    | some y =>
      have a := least_le hl ((h _).2 (least_mem hm))
      have b := least_le hm ((h _).1 (least_mem hl))
      congr 1; omega
theorem least_reverse (l : List Src) : least l.reverse = least l := least_perm fun x => by simp
/-! calls -/
def asked (s : St) (k : Int) (t : Int) : Bool := decide (0 ≤ k ∧ k < (s.l.length : Int) ∧ -T ≤ t ∧ t ≤ T)
/-- (late, error), and the state behind -/
def see (s : St) (k t : Int) : St × Bool × Nat := if asked s k t then (tell s k.toNat (t - s.bound - 1), decide (t ≤ s.now), 0) else (s, false, 2)
def tellE (s : St) (k t : Int) : St × Nat := if asked s k t then (tell s k.toNat t, 0) else (s, 2)
def idleE (s : St) (k : Int) : St × Nat := if asked s k 0 then (rest s k.toNat, 0) else (s, 2)
structure Op where
  do_ : Int
  src : Int
  t : Int
def act (s : St) (o : Op) : St :=
  if o.do_ = 1 then (see s o.src o.t).1 else if o.do_ = 2 then (tellE s o.src o.t).1 else if o.do_ = 3 then (idleE s o.src).1 else s
def says (s : St) (o : Op) : List UInt8 :=
  if o.do_ = 1 then (if (see s o.src o.t).2.1 then [108] else []) ++ (if (see s o.src o.t).2.2 ≠ 0 then [101] else []) ++ [46] else []
def acts (s : St) (l : List Op) : St := l.foldl act s
def saysAll (s : St) : List Op → List UInt8
  | [] => []
  | o :: l => says s o ++ saysAll (act s o) l
theorem act_ok {s : St} (h : Ok s) (o : Op) : Ok (act s o) := by
  unfold act see tellE idleE
  split
  · split
    · exact put_ok _ _ _
    · exact h
  · split
    · split
      · exact put_ok _ _ _
      · exact h
    · split
      · split
        · exact put_ok _ _ _
        · exact h
      · exact h
theorem act_length (s : St) (o : Op) : (act s o).l.length = s.l.length := by
  unfold act see tellE idleE tell rest
  split
  · split
    · exact put_length _ _ _
    · rfl
  · split
    · split
      · exact put_length _ _ _
      · rfl
    · split
      · split
        · exact put_length _ _ _
        · rfl
      · rfl
theorem asked_iff (s : St) (k t : Int) : asked s k t = true ↔ 0 ≤ k ∧ k < (s.l.length : Int) ∧ -T ≤ t ∧ t ≤ T := by unfold asked; exact decide_eq_true_iff
theorem asked_len {s s' : St} (h : s'.l.length = s.l.length) (k t : Int) : asked s' k t = asked s k t := by unfold asked; rw [h]
theorem act_act (s : St) (o : Op) : act (act s o) o = act s o := by
  by_cases h1 : o.do_ = 1
  · have e : ∀ s, act s o = (see s o.src o.t).1 := fun s => by unfold act; rw [if_pos h1]
    rw [e, e]
    by_cases a : asked s o.src o.t = true
    · have f : (see s o.src o.t).1 = tell s o.src.toNat (o.t - s.bound - 1) := by unfold see; rw [if_pos a]
      rw [f]
      have b : asked (tell s o.src.toNat (o.t - s.bound - 1)) o.src o.t = true := by exact (asked_len (put_length _ _ _) _ _).trans a
      unfold see
      rw [if_pos b]
      have := (asked_iff _ _ _).1 a
      exact tell_tell s _ _ (by omega)
    · have f : (see s o.src o.t).1 = s := by unfold see; rw [if_neg a]
      rw [f, f]
  · by_cases h2 : o.do_ = 2
    · have e : ∀ s, act s o = (tellE s o.src o.t).1 := fun s => by unfold act; rw [if_neg h1, if_pos h2]
      rw [e, e]
      by_cases a : asked s o.src o.t = true
      · have f : (tellE s o.src o.t).1 = tell s o.src.toNat o.t := by unfold tellE; rw [if_pos a]
        rw [f]
        have b : asked (tell s o.src.toNat o.t) o.src o.t = true := by exact (asked_len (put_length _ _ _) _ _).trans a
        unfold tellE
        rw [if_pos b]
        have := (asked_iff _ _ _).1 a
        exact tell_tell s _ _ (by omega)
      · have f : (tellE s o.src o.t).1 = s := by unfold tellE; rw [if_neg a]
        rw [f, f]
    · by_cases h3 : o.do_ = 3
      · have e : ∀ s, act s o = (idleE s o.src).1 := fun s => by unfold act; rw [if_neg h1, if_neg h2, if_pos h3]
        rw [e, e]
        by_cases a : asked s o.src 0 = true
        · have f : (idleE s o.src).1 = rest s o.src.toNat := by unfold idleE; rw [if_pos a]
          rw [f]
          have b : asked (rest s o.src.toNat) o.src 0 = true := by exact (asked_len (put_length _ _ _) _ _).trans a
          unfold idleE
          rw [if_pos b]
          have := (asked_iff _ _ _).1 a
          exact rest_rest s _ (by omega)
        · have f : (idleE s o.src).1 = s := by unfold idleE; rw [if_neg a]
          rw [f, f]
      · have e : ∀ s, act s o = s := fun s => by unfold act; rw [if_neg h1, if_neg h2, if_neg h3]
        rw [e, e]
end PMarks
