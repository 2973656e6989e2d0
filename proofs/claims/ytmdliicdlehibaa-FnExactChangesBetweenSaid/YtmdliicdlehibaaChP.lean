/- Releases: plain. No program. -/
import Derived.Test.YtmdliicdlehibaaChB
import Derived.Test.YtmdliicdlehibaaCmpF
import Derived.Test.YtmdliicdlehibaaSum
namespace Go.Proofs.Ytmdliicdlehibaa
open Go.RowKit
/-- a place on a scale with modulus n, as an interval -/
def plLo (n lo hi : Int) : Int := min (lo * n) (hi * n) / 1048576
def plHi (n lo hi : Int) : Int := -(-max (lo * n) (hi * n) / 1048576)
def plCode (n : Int) (f : Figure) : Int := if (inB (plLo n (figLo f.digits f.tens) (figHi f.digits f.tens)) (-100000) 100000 && inB (plHi n (figLo f.digits f.tens) (figHi f.digits f.tens)) (-100000) 100000) = true then 0 else 3
/-- whether a release is valid -/
def relB (fd ft : Int) (s : ByteArray) (l : List Int) (wd lf rt : Int) (lu hu lv hv : Figure) (ey bo : Int) : Bool :=
  chartB fd ft s l wd lf rt && (figOK lu && figOK hu && figOK lv && figOK hv) && (inB ey 0 200 && inB bo 0 1048576) && (decide (0 ≤ cmpF hu lu) && decide (0 ≤ cmpF hv lv)) &&
    (decide (plCode (lf * l.getD 0 0) lu = 0) && decide (plCode (lf * l.getD 0 0) hu = 0)) && (decide (plCode (rt * l.getD 1 0) lv = 0) && decide (plCode (rt * l.getD 1 0) hv = 0))
end Go.Proofs.Ytmdliicdlehibaa
