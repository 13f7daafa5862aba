/- The plain statement of the law DiffRuns: Invert, Unchanged and FromRuns answer what the reference answers. Conditions: none beyond the statement's own. -/
import Derived.Test.YtikepmdhnbnohaaSDiffRuns
import Derived.Test.YtikepmdhnbnohaaPlRuns8
namespace Go.Proofs.Ytikepmdhnbnohaa.Pure
open Go.RowKit Go.Proofs.YtikepmdhnbnohaaW.PrintWords Go.Proofs.Ytikepmdhnbnohaa.P Go.Proofs.Ytikepmdhnbnohaa.Pl
theorem DiffRuns : graftagelaw08_DiffRuns.Pure := by
  intro l0 a1 a2 l3 h0 _ _ h3
  refine Ev.rounds ?_
  have yes : Ev (fun k => graftagelaw08_DiffRuns.j0 k l0 a1 a2 l3 true) true := by
    refine Ev.step (f := fun k => (graftagelaw08_lives.f k).bind fun t => some t) (fun k => ?_) (Ev.bind lives_ev (Ev.now _))
    rw [graftagelaw08_DiffRuns.j0, if_pos rfl]
  by_cases c0 : (l0.length : Int) > 200
  · refine Ev.congr (fun k => ?_) yes
    unfold graftagelaw08_DiffRuns.f
    rw [if_pos c0]
  by_cases c3 : (l3.length : Int) > 200
  · refine Ev.congr (fun k => ?_) yes
    unfold graftagelaw08_DiffRuns.f
    rw [if_neg c0, decide_eq_true c3]
  obtain ⟨r, hf, ho, hr⟩ := of_ev a1 a2 l3 (by omega)
  have hs := stay_len a1 l0 0 0
  have e1 := Ev.bind (f := fun _ (t : Bool) => some t) lives_ev (Ev.now true)
  have step : Ev (fun k => graftagelaw08_DiffRuns.j0 k l0 a1 a2 l3 false) true := by
    refine Ev.step (fun k => by rw [graftagelaw08_DiffRuns.j0, if_neg (by simp)]) ?_
    refine Ev.bind (invert_ev l0 (by omega)) (Ev.bind (back_ev l0 (by omega)) (Ev.bind (edits_same _ (by simp [inv]; omega)) ?_))
    simp only [if_true]
    refine Ev.bind (unchanged_ev l0 a1 (by omega)) (Ev.bind (rstay_ev l0 a1 (by omega)) (Ev.bind (runs_same _ (by omega)) ?_))
    simp only [if_true, hf, Option.bind_some]
    refine Ev.bind ho (Ev.bind (edits_same r (by omega)) ?_)
    simp only [if_true]
    exact e1
  refine Ev.congr (fun k => ?_) step
  unfold graftagelaw08_DiffRuns.f
  rw [if_neg c0, decide_eq_false c3]
end Go.Proofs.Ytikepmdhnbnohaa.Pure
