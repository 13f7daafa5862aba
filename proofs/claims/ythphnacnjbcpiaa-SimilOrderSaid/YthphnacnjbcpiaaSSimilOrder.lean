-- written by mp.py, a program of this session, over the kit's printer
import Derived.Test.YthphnacnjbcpiaaPx9
import Derived.Test.YthphnacnjbcpiaaPOp
namespace Go.Proofs.Ythphnacnjbcpiaa.P
open Go.RowKit Go.Proofs.YthphnacnjbcpiaaW.PrintWords
/-- The one plain statement of the law SimilOrder. -/
def graftagelaw11_SimilOrder.Pure : Prop := ∀ (a0 : ByteArray) (a1 : ByteArray), a0.size ≤ 140737488351232 → a1.size ≤ 140737488351232 → ∃ k, graftagelaw11_SimilOrder.f k a0 a1 = some true
end Go.Proofs.Ythphnacnjbcpiaa.P
