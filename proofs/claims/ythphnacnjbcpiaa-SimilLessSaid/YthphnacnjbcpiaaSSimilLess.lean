-- written by mp.py, a program of this session, over the kit's printer
import Derived.Test.YthphnacnjbcpiaaPx8
import Derived.Test.YthphnacnjbcpiaaPOp
namespace Go.Proofs.Ythphnacnjbcpiaa.P
open Go.RowKit Go.Proofs.YthphnacnjbcpiaaW.PrintWords
/-- The one plain statement of the law SimilLess. -/
def graftagelaw11_SimilLess.Pure : Prop := ∀ (a0 : ByteArray) (a1 : ByteArray) (a2 : Int), a0.size ≤ 140737488351232 → a1.size ≤ 140737488351232 → (Lit.int .i64 a2).wf = true → ∃ k, graftagelaw11_SimilLess.f k a0 a1 a2 = some true
end Go.Proofs.Ythphnacnjbcpiaa.P
