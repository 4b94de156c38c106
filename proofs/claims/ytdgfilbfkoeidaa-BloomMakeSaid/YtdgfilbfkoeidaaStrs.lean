/- A slice of strings that came in: its elements, their sizes, how they lie. -/
import Derived.Test.YtdgfilbfkoeidaaWMore
import Derived.SliceStrings
import Derived.SizedLaws
import Derived.WideShapes
namespace Go.Proofs.Ytdgfilbfkoeidaa.Strs
open Go.RowKit Go.ChangeShapes Go.WideShapes Go.Proofs.YtdgfilbfkoeidaaW.PrintWords
theorem mem_all {H : Type} {P : Program} {e : TypeId} {d : DataW H} : ∀ {l : List (DataW H)}, d ∈ l → ∀ n ∈ d.weights P e, n ∈ DataW.weightsAll P e l
  | x :: r, h, n, hn => by
    simp only [DataW.weightsAll, List.mem_append]
    rcases List.mem_cons.1 h with h | h
    · subst h; exact .inl hn
    · exact .inr (mem_all h n hn)
  | [], h, _, _ => by cases h
theorem open_strs {H : Type} {enc : TypeId × Value → H} {P : Program} {W : World} {ts : List TypeId} {ds : List (DataW H)} {j : Nat} {t e : TypeId} {a : Option Addr} {len cap : Nat} {d : DataW H} {p : List MemPlace}
    (ht : P.underlying t = some (.slice e)) (he : P.underlying e = some .string) (hc : P.cellsOf e = 1)
    (hj : DataW.Trod enc P W 0 (fun _ => true) true t (.slice a len cap) d p)
    (hsz : (DataW.weightsEach P ts ds).all (· ≤ reachBytes) = true) (hts : ts[j]? = some t) (hds : ds[j]? = some d) :
    ∃ l : List ByteArray, l.length = len ∧ len ≤ cap ∧ Kd.C Kd.string W a l.length l ∧ ∀ s ∈ l, s.size ≤ 140737488351232 := by
  obtain ⟨fuel, hf⟩ := hj
  rcases open_strings ht he hc hf with ⟨hcs, _⟩ | ⟨x, len', cap', ss, hcs, _, hl, hm, hlen, hx, hcell, _⟩
  · simp [Value.cells] at hcs
    obtain ⟨rfl, rfl, rfl⟩ := hcs
    exact ⟨[], rfl, Nat.le_refl _, ⟨rfl, by simp, fun h => by simp at h⟩, fun s h => by cases h⟩
  · simp [Value.cells] at hcs
    obtain ⟨rfl, rfl, rfl⟩ := hcs
    simp only [if_true] at hlen
    have hd : d = .slice (strs (ss.take len)) (strs (ss.drop len)) := (Prod.mk.injEq .. ▸ hx : _ ∧ _).1
    have hml : maxLen = 9223372036854775807 := rfl
    have hll : (ss.take len).length = len := by rw [List.length_take]; omega
    refine ⟨ss.take len, hll, hl, ?_, ?_⟩
    · refine Kd.C_of_reads (enc := Value.string) (d := ByteArray.empty) (h1 := fun _ => rfl) ⟨rfl, by omega, fun _ => ⟨x, rfl, fun i hi => ?_⟩⟩
      rw [hcell i (by omega), List.getD_eq_getElem?_getD, List.getD_eq_getElem?_getD, List.getElem?_take_of_lt (by omega)]
    · intro s hs
      have hmem : (.lit (.string s.data.toList) : DataW H) ∈ strs (H := H) (ss.take len) := List.mem_map.2 ⟨s, hs, rfl⟩
      have hw := mem_all (P := P) (e := e) hmem s.data.toList.length (by simp [DataW.weights])
      have hw2 : s.data.toList.length ∈ d.weights P t := by
        rw [hd]
        simp only [DataW.weights, ht, List.mem_cons, List.mem_append]
        exact .inr (.inl hw)
      have z := List.all_eq_true.1 hsz _ (DataW.weights_mem_each hts hds _ hw2)
      have z2 : s.size ≤ reachBytes := by simpa using z
      exact z2
end Go.Proofs.Ytdgfilbfkoeidaa.Strs
