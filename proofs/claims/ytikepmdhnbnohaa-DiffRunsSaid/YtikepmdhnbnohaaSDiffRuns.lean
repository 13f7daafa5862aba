-- written by mp.py, a program of this session, over the kit's printer
import Derived.Test.YtikepmdhnbnohaaPx26
import Derived.Test.YtikepmdhnbnohaaPOp
namespace Go.Proofs.Ytikepmdhnbnohaa.P
open Go.RowKit Go.Proofs.YtikepmdhnbnohaaW.PrintWords
/-- The one plain statement of the law DiffRuns. -/
def graftagelaw08_DiffRuns.Pure : Prop := ∀ (l0 : List (S44)) (a1 : Int) (a2 : Int) (l3 : List (S32)), (l0.length * 32 ≤ 140737488351232 ∧ ∀ x_ ∈ l0, Good44 x_) → (Lit.int .i64 a1).wf = true → (Lit.int .i64 a2).wf = true → (l3.length * 24 ≤ 140737488351232 ∧ ∀ x_ ∈ l3, Good32 x_) → ∃ k, graftagelaw08_DiffRuns.f k l0 a1 a2 l3 = some true
end Go.Proofs.Ytikepmdhnbnohaa.P
