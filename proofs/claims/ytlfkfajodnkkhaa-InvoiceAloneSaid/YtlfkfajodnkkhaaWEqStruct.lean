/- A text of this seat. -/
import Derived.Test.YtlfkfajodnkkhaaWWords
import Derived.Laws.StructEq
namespace Go.Proofs.YtlfkfajodnkkhaaW.PrintWords
open Go.RowKit
section
variable {P:Program} {d:Nat} {xs ys:Array Value} {f:Field} {fs:List Field} {a b:Value} {r s:Bool} {w:World}
end
end Go.Proofs.YtlfkfajodnkkhaaW.PrintWords
