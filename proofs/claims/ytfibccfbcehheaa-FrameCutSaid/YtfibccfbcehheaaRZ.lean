/- A text and two numbers, as the printed functions hand them back. -/
import Derived.Test.YtfibccfbcehheaaText
import Derived.Test.YtfibccfbcehheaaPLink
import Derived.Test.YtfibccfbcehheaaPCode
namespace Go.Proofs.Ytfibccfbcehheaa.Print
open Go.RowKit Txt Go.Proofs.YtfibccfbcehheaaW.PrintWords
/-- a text and two numbers -/
abbrev ZT (r : List UInt8 × Nat × Nat) : ByteArray × Int × Int := (B r.1, (r.2.1 : Int), (r.2.2 : Int))
end Go.Proofs.Ytfibccfbcehheaa.Print
