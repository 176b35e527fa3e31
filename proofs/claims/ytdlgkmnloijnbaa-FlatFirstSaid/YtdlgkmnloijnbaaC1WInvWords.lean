/- Printed by a program of this place's own. -/
import Derived.Test.YtdlgkmnloijnbaaC1WInv
import Derived.Test.YtdlgkmnloijnbaaC1WFootNe
namespace Go.Proofs.YtdlgkmnloijnbaaW.PrintWords
open Go.RowKit
end Go.Proofs.YtdlgkmnloijnbaaW.PrintWords
namespace Go.Proofs.YtdlgkmnloijnbaaW.PrintLast
section
variable {ops : Array Oper} {a : Act} {o og : Oper} {g : Nat} {t : Tmp} {u : Bool}
end
end Go.Proofs.YtdlgkmnloijnbaaW.PrintLast
