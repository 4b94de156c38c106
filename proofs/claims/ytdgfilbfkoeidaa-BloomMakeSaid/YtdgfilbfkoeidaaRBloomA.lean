/- Bloom: the awake of this layer. -/
import Derived.Test.YtdgfilbfkoeidaaRBloom
namespace Go.Proofs.Ytdgfilbfkoeidaa.Print
open Go.RowKit PLink Txt Bloom Go.Proofs.YtdgfilbfkoeidaaW.PrintWords
/-- awake, of whatever functions that answer so -/
theorem awake_gen (mk : List ByteArray → Int → Option (ByteArray × Int)) (hs : ByteArray → ByteArray → Option Bool) (ck : ByteArray → Option Int)
    (h1 : mk [] 10 = some (B [7, 0, 0, 0, 0, 0, 0, 0, 0], 0)) (h2 : mk [] 33 = some (⟨#[]⟩, 2)) (h3 : hs (B [7, 0, 0, 0, 0, 0, 0, 0, 0]) (⟨#[97]⟩ : ByteArray) = some false)
    (h4 : hs (⟨#[1, 255, 255, 255, 255, 255, 255, 255, 255]⟩ : ByteArray) (⟨#[97]⟩ : ByteArray) = some true) (h5 : hs (⟨#[]⟩ : ByteArray) (⟨#[97]⟩ : ByteArray) = some true) (h6 : ck (⟨#[7]⟩ : ByteArray) = some 7) :
    ((mk ([] : List ByteArray) 10).bind fun bt101 => ((mk ([] : List ByteArray) 33).bind fun bt103 => (if bt101.1.toList = ([7, 0, 0, 0, 0, 0, 0, 0, 0] : List UInt8) then (if bt101.2 = 0 then (if bt103.2 = 2 then ((hs bt101.1 (⟨#[97]⟩ : ByteArray)).bind fun t105 => (if t105 = true then (some false) else ((hs (⟨#[1, 255, 255, 255, 255, 255, 255, 255, 255]⟩ : ByteArray) (⟨#[97]⟩ : ByteArray)).bind fun t106 => (if t106 = true then ((hs (⟨#[]⟩ : ByteArray) (⟨#[97]⟩ : ByteArray)).bind fun t107 => (if t107 = true then ((ck (⟨#[7]⟩ : ByteArray)).bind fun t108 => (some (t108 == 7))) else (some false))) else (some false))))) else (some false)) else (some false)) else (some false)))) = some true := by
  have t1 : (B [7, 0, 0, 0, 0, 0, 0, 0, 0]).toList = [7, 0, 0, 0, 0, 0, 0, 0, 0] := ByteArray.toList_eq _
  rw [h1, h2]
  simp only [Option.bind_some, t1, h3, h4, h5, h6, if_true, Bool.false_eq_true, if_false]
  rfl
theorem awake10 : freshetlaw10_awake.f = some true := awake_gen bloom_Make.f bloom_Has.f bloom_Check.f make_none make_33 has_none has_full has_empty check_seven
end Go.Proofs.Ytdgfilbfkoeidaa.Print
