/- Bloom: the printed references, and the awake of this layer, are the plain ones. -/
import Derived.Test.YtdgfilbfkoeidaaRSum
import Derived.Test.YtdgfilbfkoeidaaGBloom
import Derived.Test.YtdgfilbfkoeidaaPrint1
import Derived.Test.YtdgfilbfkoeidaaPrint1
import Derived.Test.YtdgfilbfkoeidaaPrint1
namespace Go.Proofs.Ytdgfilbfkoeidaa.Print
open Go.RowKit PLink Txt Bloom Go.Proofs.YtdgfilbfkoeidaaW.PrintWords
theorem check_f (F : ByteArray) : bloom_Check.f F = some (chk F : Int) := by
  unfold bloom_Check.f chk
  have h0 := bt_getD F 0
  simp only [Int.toNat_zero] at h0
  by_cases hf : fine F
  · rw [if_pos hf]
    obtain ⟨a, b, c, d⟩ := hf
    rw [if_neg (by omega), if_neg (by omega), if_pos (by omega), if_neg (by omega), if_neg (by omega)]
    rfl
  · rw [if_neg hf]
    by_cases a : (F.size : Int) < 9
    · rw [if_pos a]; rfl
    · rw [if_neg a]
      by_cases b : (F.size : Int) > 262145
      · rw [if_pos b]; rfl
      · rw [if_neg b, if_pos (by omega)]
        by_cases c : bt F 0 < 1
        · rw [if_pos c]; rfl
        · rw [if_neg c]
          by_cases d : bt F 0 > 22
          · rw [if_pos d]; rfl
          · exact absurd ⟨by omega, by omega, by omega, by omega⟩ hf
theorem make_none : bloom_Make.f ([] : List ByteArray) 10 = some (B [7, 0, 0, 0, 0, 0, 0, 0, 0], 0) := by decide +kernel
theorem make_33 : bloom_Make.f ([] : List ByteArray) 33 = some (⟨#[]⟩, 2) := by decide +kernel
theorem has_none : bloom_Has.f (B [7, 0, 0, 0, 0, 0, 0, 0, 0]) (⟨#[97]⟩ : ByteArray) = some false := by decide +kernel
theorem has_full : bloom_Has.f (⟨#[1, 255, 255, 255, 255, 255, 255, 255, 255]⟩ : ByteArray) (⟨#[97]⟩ : ByteArray) = some true := by decide +kernel
theorem has_empty : bloom_Has.f (⟨#[]⟩ : ByteArray) (⟨#[97]⟩ : ByteArray) = some true := by decide +kernel
theorem check_seven : bloom_Check.f (⟨#[7]⟩ : ByteArray) = some 7 := by rw [check_f]; unfold chk; rw [if_neg (fun h => absurd h.1 (by decide))]; rfl
theorem ref_bit (key : ByteArray) (h : key.size ≤ 9223372036854775806) (i m : Nat) (hi : i ≤ 1000000) (hm : 0 < m) :
    Ev (fun k => freshetref10_Bit.f k key (i : Int) (m : Int)) (place key m i : Int) := by
  have r1 := ref_hash 1#32 key h
  have r2 := ref_hash 2#32 key h
  have b1 := (PCrc.hash 1#32 (L key)).isLt
  have e2 : I (PCrc.hash 2#32 (L key)) = (h2_ key : Int) := rfl
  have l2 := h2_lt key
  have hp : ∀ b : Int, b = (by_ key : Int) → ((I (PCrc.hash 1#32 (L key)) + ((((i : Int) % 4294967296) * b) % 4294967296)) % 4294967296) % (m : Int) = (place key m i : Int) := by
    rintro _ rfl
    have e1 : I (PCrc.hash 1#32 (L key)) = ((PCrc.hash 1#32 (L key)).toNat : Int) := rfl
    have e3 : (i : Int) % 4294967296 = (i : Int) := by omega
    rw [e1, e3, ← Int.natCast_mul]
    unfold place at_
    have e4 : PCrc.hash 1 (L key) = PCrc.hash 1#32 (L key) := rfl
    rw [e4]
    generalize i * by_ key = P
    generalize (PCrc.hash 1#32 (L key)).toNat = a
    have e5 : ((a : Int) + (P : Int) % 4294967296) % 4294967296 = (((a + P) % 4294967296 : Nat) : Int) := by omega
    rw [e5]
    exact (Int.natCast_emod _ _).symm
  refine Ev.congr (f := fun k => (freshetref01_Hash.f k (I 2#32) key).bind fun t109 => (if (Int.tmod t109 2) = 0 then ((freshetref01_Hash.f k (I 1#32) key).bind fun t110 => (if (m : Int) = 0 then (none) else (some (((t110 + ((((i : Int) % 4294967296) * ((t109 + 1) % 4294967296)) % 4294967296)) % 4294967296) % (m : Int))))) else ((freshetref01_Hash.f k (I 1#32) key).bind fun t111 => (if (m : Int) = 0 then (none) else (some (((t111 + ((((i : Int) % 4294967296) * t109) % 4294967296)) % 4294967296) % (m : Int))))))) (fun k => rfl) ?_
  refine Ev.bind r2 ?_
  rw [e2]
  have hpar : Int.tmod (h2_ key : Int) 2 = (h2_ key : Int) % 2 := Int.tmod_eq_emod_of_nonneg (by omega)
  by_cases par : (h2_ key : Int) % 2 = 0
  · refine Ev.congr (fun k => if_pos (by rw [hpar]; exact par)) ?_
    refine Ev.bind r1 ?_
    refine Ev.congr (fun k => if_neg (by omega)) ?_
    rw [hp _ (by unfold by_; omega)]
    exact Ev.now _
  · refine Ev.congr (fun k => if_neg (by rw [hpar]; exact par)) ?_
    refine Ev.bind r1 ?_
    refine Ev.congr (fun k => if_neg (by omega)) ?_
    rw [hp _ (by unfold by_; omega)]
    exact Ev.now _
end Go.Proofs.Ytdgfilbfkoeidaa.Print
