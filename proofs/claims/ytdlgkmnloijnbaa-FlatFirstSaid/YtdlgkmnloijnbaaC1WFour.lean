/- Printed by a program of this place's own. -/
import Derived.Test.YtdlgkmnloijnbaaC1WTab
/-! ### 56. Four, five, six operations that may come up next, in any order -/
namespace Go.Proofs.YtdlgkmnloijnbaaW.PrintLast
section
variable {P : Program} {ops : Array Oper} {Q : Exit → Act → World → Prop} {md : Region.Mode} {S : World → Prop} {ds : List Nat} {T : Bool × List (List Nat × List Nat)}
end
end Go.Proofs.YtdlgkmnloijnbaaW.PrintLast
