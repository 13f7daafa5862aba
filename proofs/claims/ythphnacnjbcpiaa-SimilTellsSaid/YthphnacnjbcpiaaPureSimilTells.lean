/- The plain statement of the law SimilTells: Common, Score and AtLeast answer what the reference answers. Conditions: none beyond the statement's own. -/
import Derived.Test.YthphnacnjbcpiaaSSimilTells
import Derived.Test.YthphnacnjbcpiaaPlSimil
namespace Go.Proofs.Ythphnacnjbcpiaa.Pure
open Go.RowKit Go.Proofs.YthphnacnjbcpiaaW.PrintWords Go.Proofs.Ythphnacnjbcpiaa.P Go.Proofs.Ythphnacnjbcpiaa.Pl
theorem SimilTells : graftagelaw11_SimilTells.Pure := by
  intro a b n _ _ _
  refine Ev.rounds ?_
  have fin := Ev.bind (f := fun _ (t : Bool) => some t) lives_ev (Ev.now true)
  have yes : Ev (fun k => graftagelaw11_SimilTells.j0 k a b n true) true := Ev.step (fun k => by rw [graftagelaw11_SimilTells.j0, if_pos rfl]) fin
  unfold graftagelaw11_SimilTells.f
  rcases few_ev a with ⟨ha, h1⟩ | h1
  case inr => exact Ev.bind h1 yes
  refine Ev.bind h1 (Ev.congr (fun k => if_pos rfl) ?_)
  rcases few_ev b with ⟨hb, h2⟩ | h2
  case inr => exact Ev.bind h2 yes
  refine Ev.bind h2 ?_
  have ha' : a.size < 8796093022208 := by omega
  have hb' : b.size < 8796093022208 := by omega
  refine Ev.step (fun k => by rw [graftagelaw11_SimilTells.j0, if_neg (by simp)]) ?_
  refine Ev.bind (common_ev a b ha' hb') (Ev.bind (rcommon_ev a b ha' hb') (Ev.congr (fun k => if_pos rfl) ?_))
  refine Ev.bind (score_ev a b ha' hb') (Ev.bind (rscore_ev a b ha' hb') (Ev.congr (fun k => if_pos rfl) ?_))
  refine Ev.bind (a := decide ((sc a b : Int) ≥ n)) ?_ (Ev.bind (a := decide ((sc a b : Int) ≥ n)) ?_ (Ev.congr (fun k => if_pos (by simp)) fin))
  · unfold simil_AtLeast.f
    exact Ev.bind (score_ev a b ha' hb') (Ev.now _)
  · unfold graftageref11_Above.f
    exact Ev.bind (rscore_ev a b ha' hb') (Ev.now _)
end Go.Proofs.Ythphnacnjbcpiaa.Pure
