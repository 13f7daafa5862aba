/- The law ThreeTurned of the given program holds: for every input that the row speaks of, the call returns true and each argument reads behind the call as it read before. Conditions: none beyond the row's own. -/
import Derived.Test.YtnodepfoahmcmaaRows
import Derived.Test.YtnodepfoahmcmaaGThreeTurned
import Derived.Test.YtnodepfoahmcmaaHThreeTurned2
import Derived.WalkKit
import Derived.ProofKit
import Derived.OpenShut
import Derived.ShutString
import Derived.ChangeOld
import Derived.Below
import Derived.SizedLaws
import Derived.Carry
namespace Go.Proofs.Ytnodepfoahmcmaa.threeTurned
open Go.ChangeShapes Go.WideShapes Go.ChangeAt Go.RowKit Go.Proofs.Ytnodepfoahmcmaa Go.Proofs.Ytnodepfoahmcmaa.E Go.Proofs.Ytnodepfoahmcmaa.E.Hs
open Go.ChangeMaps (open_string shut_string)
set_option linter.unusedVariables false
set_option linter.unusedSimpArgs false
theorem Plain (a0 : (List (List UInt8))) (G0 : (a0.length * 16 ≤ 140737488351232 ∧ ∀ x_ ∈ a0, x_.length ≤ 140737488351232)) (a1 : (List (List UInt8))) (G1 : (a1.length * 16 ≤ 140737488351232 ∧ ∀ x_ ∈ a1, x_.length ≤ 140737488351232)) (a2 : (List (List UInt8))) (G2 : (a2.length * 16 ≤ 140737488351232 ∧ ∀ x_ ∈ a2, x_.length ≤ 140737488351232)) : Run tab 6 0 [(vSl 1 vStr) a0, (vSl 1 vStr) a1, (vSl 1 vStr) a2] [] 0 (fun r _ _ => r = .bool true) := law_ThreeTurned a0 a1 a2 (by have := G0.1; omega) (by have := G1.1; omega) (by have := G2.1; omega)
theorem own : ownKnob Try.prog.godebug = none := by kernel_rfl
theorem laidOut : laidOutB Try.prog = true := by kernel_rfl
set_option maxRecDepth 100000 in
theorem lifted (os : Os) (started : os.Started) (H : Type) (enc : TypeId × Value → H) :
    ReturnsInHanded {} Try.checked os 6 .any (Rows.threeTurnedSpec.pre6 enc Try.prog Try.f6 Rows.threeTurnedRow.domain false) (Rows.threeTurnedSpec.post enc Try.prog Try.f6 false true false false) := by
  refine returnsInHanded_of_change_sized (C := Try.checked) own started (by kernel_rfl) Try.func6
    (ChangeSpec.witness6 (enc := enc) (C := Try.checked) false ⟨#[], #[.slice none 0 0, .slice none 0 0, .slice none 0 0], []⟩ 8 (by kernel_rfl) (by kernel_rfl) (by kernel_rfl) (by kernel_rfl)) ?_
  intro W base args ds gs before hval0 hW hcnd hsz0 _
  have hsz : (DataW.weightsEach Try.prog (Try.f6.params.toList ++ Rows.threeTurnedSpec.plain.varTypes Try.prog) (ds ++ gs)).all (· ≤ reachBytes) = true := hsz0
  have hval : ∀ (j : Nat) t v, Try.f6.params[j]? = some t → args[j]? = some v → Value.okWide Try.prog W .any base t v := hval0
  have hW' := hW
  obtain ⟨p, q, hA0, hV, rfl, hfz, hnd⟩ := hW
  have hA : DataW.TrodAll enc Try.prog W 0 (fun _ => true) true Try.f6.params.toList args.toList ds p := hA0
  rw [Try.params6] at hA hval hsz
  obtain ⟨v0, vs0, d0, ds0, p0, q0, hargs, rfl, rfl, h0, r0⟩ := trodAll_cons hA
  obtain ⟨v1, vs1, d1, ds1, p1, q1, rfl, rfl, rfl, h1, r1⟩ := trodAll_cons r0
  obtain ⟨v2, vs2, d2, ds2, p2, q2, rfl, rfl, rfl, h2, r2⟩ := trodAll_cons r1
  obtain ⟨rfl, rfl, rfl⟩ := trodAll_nil r2
  obtain rfl : args = #[v0, v1, v2] := by cases args; simp_all
  obtain ⟨rfl, rfl⟩ := trodVars_none hV
  have k0 := h0
  have lt0 : ∀ x ∈ p0, x.block < W.heap.size := by obtain ⟨m, hm⟩ := k0; exact DataW.trod_lt m _ _ _ hm
  have w0 : ∀ n ∈ d0.weights Try.prog 22, n ≤ reachBytes := fun n hn => by
    have z := List.all_eq_true.1 hsz n (DataW.weights_mem_each (j := 0) (t := 22) rfl rfl n hn)
    simpa using z
  obtain ⟨fuel0, hf0⟩ := h0
  have o0 := (opens_slice 16 (by decide) Try.underlying22 (by kernel_rfl) (by kernel_rfl) (opens_string Try.underlying9 (by kernel_rfl) : Opens Try.prog 9 1 vStr _) : Opens Try.prog 22 1 (vSl 1 vStr) _)
  obtain ⟨aa0, len0, cap0, rfl⟩ := okWide_slice Try.underlying22 (hval 0 22 v0 rfl rfl)
  obtain ⟨a0, K0, G0⟩ := o0.out hf0 w0
  have A0 := arg_one o0 rfl rfl K0
  have k1 := h1
  have lt1 : ∀ x ∈ p1, x.block < W.heap.size := by obtain ⟨m, hm⟩ := k1; exact DataW.trod_lt m _ _ _ hm
  have w1 : ∀ n ∈ d1.weights Try.prog 22, n ≤ reachBytes := fun n hn => by
    have z := List.all_eq_true.1 hsz n (DataW.weights_mem_each (j := 1) (t := 22) rfl rfl n hn)
    simpa using z
  obtain ⟨fuel1, hf1⟩ := h1
  have o1 := (opens_slice 16 (by decide) Try.underlying22 (by kernel_rfl) (by kernel_rfl) (opens_string Try.underlying9 (by kernel_rfl) : Opens Try.prog 9 1 vStr _) : Opens Try.prog 22 1 (vSl 1 vStr) _)
  obtain ⟨aa1, len1, cap1, rfl⟩ := okWide_slice Try.underlying22 (hval 1 22 v1 rfl rfl)
  obtain ⟨a1, K1, G1⟩ := o1.out hf1 w1
  have A1 := arg_one o1 rfl rfl K1
  have k2 := h2
  have lt2 : ∀ x ∈ p2, x.block < W.heap.size := by obtain ⟨m, hm⟩ := k2; exact DataW.trod_lt m _ _ _ hm
  have w2 : ∀ n ∈ d2.weights Try.prog 22, n ≤ reachBytes := fun n hn => by
    have z := List.all_eq_true.1 hsz n (DataW.weights_mem_each (j := 2) (t := 22) rfl rfl n hn)
    simpa using z
  obtain ⟨fuel2, hf2⟩ := h2
  have o2 := (opens_slice 16 (by decide) Try.underlying22 (by kernel_rfl) (by kernel_rfl) (opens_string Try.underlying9 (by kernel_rfl) : Opens Try.prog 9 1 vStr _) : Opens Try.prog 22 1 (vSl 1 vStr) _)
  obtain ⟨aa2, len2, cap2, rfl⟩ := okWide_slice Try.underlying22 (hval 2 22 v2 rfl rfl)
  obtain ⟨a2, K2, G2⟩ := o2.out hf2 w2
  have A2 := arg_one o2 rfl rfl K2
  refine (law_calls tab_ok tab_ext (f := 6) (args := [(vSl 1 vStr) a0, (vSl 1 vStr) a1, (vSl 1 vStr) a2]) (vs := [_, _, _]) (.cons A0 (.cons A1 (.cons A2 .nil))) (Plain a0 G0 a1 G1 a2 G2)).mono ?_
  rintro e W' ⟨rfl, bel⟩
  exact ⟨_, rfl, _, _, _, [], _, [], hW', trodAll_mk1 (shut_bool Try.underlying4 _), (trodAll_cons_mk (Below.trod laidOut (by kernel_rfl) (of_decide_eq_true (by kernel_rfl)) k0 bel lt0) (trodAll_cons_mk (Below.trod laidOut (by kernel_rfl) (of_decide_eq_true (by kernel_rfl)) k1 bel lt1) (trodAll_cons_mk (Below.trod laidOut (by kernel_rfl) (of_decide_eq_true (by kernel_rfl)) k2 bel lt2) trodAll_mk0))), rfl, bel.frame _, fun h => by cases h⟩
theorem over : Rows.threeTurnedRow.holds Try.pinned (OpenSpec.ofChange Rows.threeTurnedSpec) :=
  OpenClaim.holds_of_wide 6 Try.f6 rfl rfl rfl rfl rfl rfl rfl ⟨rfl, rfl, rfl, rfl, rfl⟩ rfl rfl rfl rfl rfl (by kernel_rfl) Try.func6 (by kernel_rfl)
    (of_decide_eq_true (by kernel_rfl)) (by unfold Func.isWrapper; first | (rw [if_pos (by decide +kernel)]; kernel_rfl) | (rw [if_neg (by decide +kernel)]; exact ⟨rfl, rfl⟩))
    (fun os started H enc _ => lifted os started H enc)
theorem proved : Rows.ThreeTurnedSaid := over
#print axioms proved
end Go.Proofs.Ytnodepfoahmcmaa.threeTurned
namespace Go.Proofs.Ytnodepfoahmcmaa
/-- The row, under a short name, for the claim. -/
theorem threeTurned_holds : Rows.ThreeTurnedSaid := threeTurned.proved
end Go.Proofs.Ytnodepfoahmcmaa
