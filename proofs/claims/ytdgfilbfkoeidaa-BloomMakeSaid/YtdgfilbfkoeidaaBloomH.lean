/- The walks of package bloom: what a filter tells. -/
import Derived.Test.YtdgfilbfkoeidaaBloom
namespace Go.Proofs.Ytdgfilbfkoeidaa.Bloom
open Go.RowKit PLink Txt Bits Aid Lib
theorem make_bad (A0 : Option Addr) (c0 n : Nat) (bits : Int) (h : bits < 1 ∨ 32 < bits) (w : World) :
    Calls Try.prog 10 #[.slice A0 n c0, .int .i64 bits] w fun e w' => e = .returned (.tuple #[.string ⟨#[]⟩, .int .i64 2]) ∧ Below w.heap.size w w' := by
  rcases h with h | h
  · go_enter Try.func10, Try.ntmps10
    go_wp2_with fail
    go_ret2
    exact ⟨rfl, Below.refl _ _⟩
  · have h2 : ¬ bits < 1 := by omega
    go_enter Try.func10, Try.ntmps10
    go_wp2_with fail
    go_ret2
    exact ⟨rfl, Below.refl _ _⟩
/-- is it a filter's text -/
def fine (F : ByteArray) : Prop := 9 ≤ F.size ∧ F.size ≤ 262145 ∧ 1 ≤ ((L F).getD 0 0).toNat ∧ ((L F).getD 0 0).toNat ≤ 22
instance (F : ByteArray) : Decidable (fine F) := inferInstanceAs (Decidable (_ ∧ _))
def chk (F : ByteArray) : Nat := if fine F then 0 else 7
theorem check_any (F : ByteArray) (w : World) : Calls Try.prog 12 #[.string F] w fun e w' => e = .returned (.int .i64 (chk F : Int)) ∧ Below w.heap.size w w' := by
  by_cases h1 : F.size < 9
  · have hv : chk F = 7 := by unfold chk; rw [if_neg (fun h => by unfold fine at h; omega)]
    rw [hv]
    go_enter Try.func12, Try.ntmps12
    go_wp2_with fail
    go_ret
    exact ⟨rfl, Below.refl _ _⟩
  · by_cases h2 : 262145 < F.size
    · have hv : chk F = 7 := by unfold chk; rw [if_neg (fun h => by unfold fine at h; omega)]
      rw [hv]
      have g1 : ¬ (F.size : Int) < 9 := by omega
      have g2 : (F.size : Int) > 262145 := by omega
      go_enter Try.func12, Try.ntmps12
      go_wp2_with fail
      go_ret
      exact ⟨rfl, Below.refl _ _⟩
    · have g0 : 0 < F.size := by omega
      have hx : (F[0]'g0) = (L F).getD 0 0 := by rw [List.getD_eq_getElem?_getD, List.getElem?_eq_getElem (by rw [L_length]; omega)]; rfl
      have hv : chk F = if 1 ≤ (F[0]'g0).toNat ∧ (F[0]'g0).toNat ≤ 22 then 0 else 7 := by
        rw [hx]
        unfold chk
        by_cases c : 1 ≤ ((L F).getD 0 0).toNat ∧ ((L F).getD 0 0).toNat ≤ 22
        · rw [if_pos ⟨by omega, by omega, c.1, c.2⟩, if_pos c]
        · rw [if_neg (fun h => c ⟨h.2.2.1, h.2.2.2⟩), if_neg c]
      rw [hv]
      clear hv hx
      have g1 : ¬ (F.size : Int) < 9 := by omega
      have g2 : ¬ (F.size : Int) > 262145 := by omega
      by_cases c1 : ((F[0]'g0).toNat : Int) < 1
      · rw [if_neg (by omega)]
        go_enter Try.func12, Try.ntmps12
        go_wp2_with fail
        go_ret
        exact ⟨rfl, Below.refl _ _⟩
      · by_cases c2 : ((F[0]'g0).toNat : Int) > 22
        · rw [if_neg (by omega)]
          go_enter Try.func12, Try.ntmps12
          go_wp2_with fail
          go_ret
          exact ⟨rfl, Below.refl _ _⟩
        · rw [if_pos (by omega)]
          go_enter Try.func12, Try.ntmps12
          go_wp2_with fail
          go_ret
          exact ⟨rfl, Below.refl _ _⟩
/-- has a filter a key -/
def has (F key : ByteArray) : Bool := if fine F then (List.range ((L F).getD 0 0).toNat).all (fun i => PBloom.bitOf ((L F).drop 1) (place key (8 * (F.size - 1)) i)) else true
theorem has_each (key : ByteArray) (hkey : key.size ≤ 9223372036854775807) (G : ByteArray) (h8 : 8 ≤ G.size) (h9 : G.size ≤ 262144) (k : Nat) (hk : k ≤ 255) (b n0 : Nat) (w0 : World) (hbn : n0 ≤ b) (W : World) (hb : Below n0 w0 W) (hc : W.cell? ⟨b, 0, none⟩ = some (.string G)) :
    Calls Try.prog 20 #[.string key, .int .i64 k, .int .u32 ((G.size : Int) * 8), .func (.func 21) #[] #[.pointer (some ⟨b, 0, none⟩)]] W fun e w' =>
      e = .returned (.bool ((List.range k).all fun i => PBloom.bitOf (L G) (place key (8 * G.size) i))) ∧ Below n0 w0 w' := by
  have hbb : b < W.heap.size := World.block_lt_of_cell? W ⟨b, 0, none⟩ hc
  have e1 : ((G.size : Int) * 8) = ((8 * G.size : Nat) : Int) := by omega
  rw [e1]
  refine (each_any 21 (enters Try.func21 (by kernel_rfl) rfl) b (fun i => PBloom.bitOf (L G) (place key (8 * G.size) i))
    (fun _ W => Below n0 w0 W ∧ W.cell? ⟨b, 0, none⟩ = some (.string G)) key hkey k (8 * G.size) (by omega) (by omega) (by omega) ?_ W ?_).mono ?_
  · rintro i W1 hi ⟨hb1, hc1⟩
    have hbb1 : b < W1.heap.size := World.block_lt_of_cell? W1 ⟨b, 0, none⟩ hc1
    have hpl : place key (8 * G.size) i < 8 * G.size := Nat.mod_lt _ (by omega)
    refine (has1 G (place key (8 * G.size) i) b (by omega) (by omega) W1 hc1).mono ?_
    rintro e w' ⟨rfl, h1⟩
    exact ⟨rfl, hb1.trans (h1.mono (by omega)), (h1.cell (p := ⟨b, 0, none⟩) hbb1).trans hc1⟩
  · intro w1 hb1
    exact ⟨hb.trans (hb1.mono (by omega)), (hb1.cell (p := ⟨b, 0, none⟩) hbb).trans hc⟩
  · rintro e w' ⟨j, hj, ⟨h1, h2⟩, rfl, h5⟩
    exact ⟨rfl, h1⟩
set_option maxHeartbeats 4000000 in
theorem has_any (F key : ByteArray) (hkey : key.size ≤ 9223372036854775807) (w : World) : Calls Try.prog 14 #[.string F, .string key] w fun e w' => e = .returned (.bool (has F key)) ∧ Below w.heap.size w w' := by
  have HC := Lib.hid (check_any F)
  by_cases hf : fine F
  · have hc : chk F = 0 := by unfold chk; rw [if_pos hf]
    have hh : has F key = (List.range ((L F).getD 0 0).toNat).all (fun i => PBloom.bitOf ((L F).drop 1) (place key (8 * (F.size - 1)) i)) := by unfold has; rw [if_pos hf]
    rw [hc] at HC
    have HH := Lib.hid hh
    clear hh hc
    have h9 : (9 : Int) ≤ (F.size : Int) := by have := hf.1; omega
    have h10 : (F.size : Int) ≤ 262145 := by have := hf.2.1; omega
    have hmf : ∀ (fn : Fn) (first cap : Array Value) (w : World), (Instr.makeFunc fn first cap).run Try.prog w = .ok (.func fn first cap) w := fun _ _ _ _ => rfl
    go_enter Try.func14, Try.ntmps14
    go_wp2_with fail
    refine (HC.out _).mono ?_
    rintro e w1 ⟨rfl, hb1⟩
    go_wp2_with fail
    have bx := Box.new w1 (.string (F.extract 1 F.size)) 9
    have hb2 := hb1.alloc hb1.size (.cells #[.string (F.extract 1 F.size)] 9)
    have hbn : w.heap.size ≤ w1.heap.size := hb1.size
    generalize w1.alloc (.cells #[.string (F.extract 1 F.size)] 9) = W1 at bx hb2 ⊢
    generalize w1.heap.size = b at bx hbn ⊢
    have hG : (F.extract 1 F.size).size = F.size - 1 := by simp
    have hGL : L (F.extract 1 F.size) = (L F).drop 1 := L_drop F 1
    have g0 : 0 < F.size := by omega
    have hx : (F[0]'g0).toNat = ((L F).getD 0 0).toNat := by rw [List.getD_eq_getElem?_getD, List.getElem?_eq_getElem (by rw [L_length]; omega)]; rfl
    have hx3 : (F[0]'g0).toNat ≤ 22 := by rw [hx]; exact hf.2.2.2
    have HH2 := HH.out
    rw [← hG, ← hGL, ← hx] at HH2
    have HV := HH2
    clear HH HH2
    have hG2 : 8 ≤ (F.extract 1 F.size).size ∧ (F.extract 1 F.size).size ≤ 262144 := by rw [hG]; omega
    have hE := has_each key hkey (F.extract 1 F.size) hG2.1 hG2.2 (F[0]'g0).toNat (by omega) b w.heap.size w hbn
    generalize F.extract 1 F.size = G at bx hG2 hE HV ⊢
    clear hG hGL hx hf
    obtain ⟨V, hV⟩ : ∃ V, (List.range (F[0]'g0).toNat).all (fun i => PBloom.bitOf (L G) (place key (8 * G.size) i)) = V := ⟨_, rfl⟩
    rw [hV] at HV hE
    clear hV
    replace HV := Lib.hid HV
    have HE := Lib.hid hE
    clear hE
    have bc := bx.cell
    have c0 : 0 ≤ (G.size : Int) := by omega
    have c1 : (G.size : Int) ≤ 262144 := by omega
    have u1 : IntKind.i64.wrap ((F[0]'g0).toNat : Int) = ((F[0]'g0).toNat : Int) := by rw [IntKind.wrap_i64]; omega
    have u2 : IntKind.u32.wrap (G.size : Int) = (G.size : Int) := by rw [IntKind.wrap_u32]; omega
    have u3 : IntKind.u32.wrap ((G.size : Int) * 8) = (G.size : Int) * 8 := by rw [IntKind.wrap_u32]; omega
    clear hx3
    go_region_with (go_at_call 20; with_reducible refine (HE.out _ (by first | exact hb2.drew | exact hb2) (by first | exact bx.cell | exact bx.drew.cell)).mono ?_; rintro e w' ⟨rfl, hb'⟩)
    all_goals (go_wp2_with fail; go_ret; exact ⟨by rw [HV.out]; rfl, hb'⟩)
  · have hc : chk F = 7 := by unfold chk; rw [if_neg hf]
    have hh : has F key = true := by unfold has; rw [if_neg hf]
    rw [hc] at HC
    rw [hh]
    clear hh hc
    go_enter Try.func14, Try.ntmps14
    go_wp2_with fail
    refine (HC.out _).mono ?_
    rintro e w1 ⟨rfl, hb1⟩
    go_wp2_with fail
    go_ret
    exact ⟨rfl, hb1⟩
end Go.Proofs.Ytdgfilbfkoeidaa.Bloom
