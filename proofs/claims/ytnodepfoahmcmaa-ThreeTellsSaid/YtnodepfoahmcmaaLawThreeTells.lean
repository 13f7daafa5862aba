/- The law ThreeTells of the given program holds: for every input that the row speaks of, the call returns true and each argument reads behind the call as it read before. Conditions: none beyond the row's own. -/
import Derived.Test.YtnodepfoahmcmaaRows
import Derived.Test.YtnodepfoahmcmaaGThreeTells
import Derived.Test.YtnodepfoahmcmaaHThreeTells1
import Derived.WalkKit
import Derived.ProofKit
import Derived.OpenShut
import Derived.ShutString
import Derived.ChangeOld
import Derived.Below
import Derived.SizedLaws
import Derived.Carry
namespace Go.Proofs.Ytnodepfoahmcmaa.threeTells
open Go.ChangeShapes Go.WideShapes Go.ChangeAt Go.RowKit Go.Proofs.Ytnodepfoahmcmaa Go.Proofs.Ytnodepfoahmcmaa.E Go.Proofs.Ytnodepfoahmcmaa.E.Hs
open Go.ChangeMaps (open_string shut_string)
set_option linter.unusedVariables false
set_option linter.unusedSimpArgs false
theorem Plain (a0 : (List (Int × (List (List UInt8)) × (List (List UInt8)) × (List (List UInt8)) × (List (List UInt8))))) (G0 : (a0.length * 104 ≤ 140737488351232 ∧ ∀ x_ ∈ a0, ((Lit.int .i64 x_.1).wf = true ∧ (x_.2.1.length * 16 ≤ 140737488351232 ∧ ∀ x6_ ∈ x_.2.1, x6_.length ≤ 140737488351232) ∧ (x_.2.2.1.length * 16 ≤ 140737488351232 ∧ ∀ x8_ ∈ x_.2.2.1, x8_.length ≤ 140737488351232) ∧ (x_.2.2.2.1.length * 16 ≤ 140737488351232 ∧ ∀ x10_ ∈ x_.2.2.2.1, x10_.length ≤ 140737488351232) ∧ (x_.2.2.2.2.length * 16 ≤ 140737488351232 ∧ ∀ x10_ ∈ x_.2.2.2.2, x10_.length ≤ 140737488351232)))) (a1 : Int) (G1 : (Lit.int .i64 a1).wf = true) (a2 : (List UInt8)) (G2 : a2.length ≤ 140737488351232) (a3 : (List UInt8)) (G3 : a3.length ≤ 140737488351232) (a4 : Int) (G4 : (Lit.int .i64 a4).wf = true) : Run tab 4 0 [(vSl 5 (fun b : (Int × (List (List UInt8)) × (List (List UInt8)) × (List (List UInt8)) × (List (List UInt8))) => V.agg ((fun x : Int × (List (List UInt8)) × (List (List UInt8)) × (List (List UInt8)) × (List (List UInt8)) => ((vInt .i64) x.1).cells ++ (fun x : (List (List UInt8)) × (List (List UInt8)) × (List (List UInt8)) × (List (List UInt8)) => ((vSl 1 vStr) x.1).cells ++ (fun x : (List (List UInt8)) × (List (List UInt8)) × (List (List UInt8)) => ((vSl 1 vStr) x.1).cells ++ (fun x : (List (List UInt8)) × (List (List UInt8)) => ((vSl 1 vStr) x.1).cells ++ (fun a : (List (List UInt8)) => ((vSl 1 vStr) a).cells) x.2) x.2) x.2) x.2) b))) a0, (vInt .i64) a1, vStr a2, vStr a3, (vInt .i64) a4] [] 0 (fun r _ _ => r = .bool true) := law_ThreeTells a0 a1 a2 a3 a4 (by have := G0.1; omega) (fun x hx => by have q := G0.2 x hx; have q1 := q.2.1.1; have q2 := q.2.2.1.1; have q3 := q.2.2.2.1.1; have q4 := q.2.2.2.2.1; omega) (by have := G2; omega) (by have := G3; omega)
theorem own : ownKnob Try.prog.godebug = none := by kernel_rfl
theorem laidOut : laidOutB Try.prog = true := by kernel_rfl
set_option maxRecDepth 100000 in
theorem lifted (os : Os) (started : os.Started) (H : Type) (enc : TypeId × Value → H) :
    ReturnsInHanded {} Try.checked os 4 .any (Rows.threeTellsSpec.pre6 enc Try.prog Try.f4 Rows.threeTellsRow.domain false) (Rows.threeTellsSpec.post enc Try.prog Try.f4 false true false false) := by
  refine returnsInHanded_of_change_sized (C := Try.checked) own started (by kernel_rfl) Try.func4
    (ChangeSpec.witness6 (enc := enc) (C := Try.checked) false ⟨#[], #[.slice none 0 0, .int .i64 0, .string ByteArray.empty, .string ByteArray.empty, .int .i64 0], []⟩ 8 (by kernel_rfl) (by kernel_rfl) (by kernel_rfl) (by kernel_rfl)) ?_
  intro W base args ds gs before hval0 hW hcnd hsz0 _
  have hsz : (DataW.weightsEach Try.prog (Try.f4.params.toList ++ Rows.threeTellsSpec.plain.varTypes Try.prog) (ds ++ gs)).all (· ≤ reachBytes) = true := hsz0
  have hval : ∀ (j : Nat) t v, Try.f4.params[j]? = some t → args[j]? = some v → Value.okWide Try.prog W .any base t v := hval0
  have hW' := hW
  obtain ⟨p, q, hA0, hV, rfl, hfz, hnd⟩ := hW
  have hA : DataW.TrodAll enc Try.prog W 0 (fun _ => true) true Try.f4.params.toList args.toList ds p := hA0
  rw [Try.params4] at hA hval hsz
  obtain ⟨v0, vs0, d0, ds0, p0, q0, hargs, rfl, rfl, h0, r0⟩ := trodAll_cons hA
  obtain ⟨v1, vs1, d1, ds1, p1, q1, rfl, rfl, rfl, h1, r1⟩ := trodAll_cons r0
  obtain ⟨v2, vs2, d2, ds2, p2, q2, rfl, rfl, rfl, h2, r2⟩ := trodAll_cons r1
  obtain ⟨v3, vs3, d3, ds3, p3, q3, rfl, rfl, rfl, h3, r3⟩ := trodAll_cons r2
  obtain ⟨v4, vs4, d4, ds4, p4, q4, rfl, rfl, rfl, h4, r4⟩ := trodAll_cons r3
  obtain ⟨rfl, rfl, rfl⟩ := trodAll_nil r4
  obtain rfl : args = #[v0, v1, v2, v3, v4] := by cases args; simp_all
  obtain ⟨rfl, rfl⟩ := trodVars_none hV
  have k0 := h0
  have lt0 : ∀ x ∈ p0, x.block < W.heap.size := by obtain ⟨m, hm⟩ := k0; exact DataW.trod_lt m _ _ _ hm
  have w0 : ∀ n ∈ d0.weights Try.prog 25, n ≤ reachBytes := fun n hn => by
    have z := List.all_eq_true.1 hsz n (DataW.weights_mem_each (j := 0) (t := 25) rfl rfl n hn)
    simpa using z
  obtain ⟨fuel0, hf0⟩ := h0
  have o0 := (opens_slice 104 (by decide) Try.underlying25 (by kernel_rfl) (by kernel_rfl) (opens_struct id (fun a => ⟨a, rfl⟩) Try.underlying39 (by kernel_rfl) (opensF_cons rfl (opens_int Try.underlying3 (by kernel_rfl) : Opens Try.prog 3 1 (vInt .i64) _) (opensF_cons rfl (opens_slice 16 (by decide) Try.underlying22 (by kernel_rfl) (by kernel_rfl) (opens_string Try.underlying9 (by kernel_rfl) : Opens Try.prog 9 1 vStr _) : Opens Try.prog 22 1 (vSl 1 vStr) _) (opensF_cons rfl (opens_slice 16 (by decide) Try.underlying22 (by kernel_rfl) (by kernel_rfl) (opens_string Try.underlying9 (by kernel_rfl) : Opens Try.prog 9 1 vStr _) : Opens Try.prog 22 1 (vSl 1 vStr) _) (opensF_cons rfl (opens_slice 16 (by decide) Try.underlying22 (by kernel_rfl) (by kernel_rfl) (opens_string Try.underlying9 (by kernel_rfl) : Opens Try.prog 9 1 vStr _) : Opens Try.prog 22 1 (vSl 1 vStr) _) (opensF_one rfl (opens_slice 16 (by decide) Try.underlying22 (by kernel_rfl) (by kernel_rfl) (opens_string Try.underlying9 (by kernel_rfl) : Opens Try.prog 9 1 vStr _) : Opens Try.prog 22 1 (vSl 1 vStr) _)))))) : Opens Try.prog 39 5 (fun b : (Int × (List (List UInt8)) × (List (List UInt8)) × (List (List UInt8)) × (List (List UInt8))) => V.agg ((fun x : Int × (List (List UInt8)) × (List (List UInt8)) × (List (List UInt8)) × (List (List UInt8)) => ((vInt .i64) x.1).cells ++ (fun x : (List (List UInt8)) × (List (List UInt8)) × (List (List UInt8)) × (List (List UInt8)) => ((vSl 1 vStr) x.1).cells ++ (fun x : (List (List UInt8)) × (List (List UInt8)) × (List (List UInt8)) => ((vSl 1 vStr) x.1).cells ++ (fun x : (List (List UInt8)) × (List (List UInt8)) => ((vSl 1 vStr) x.1).cells ++ (fun a : (List (List UInt8)) => ((vSl 1 vStr) a).cells) x.2) x.2) x.2) x.2) b)) _) : Opens Try.prog 25 1 (vSl 5 (fun b : (Int × (List (List UInt8)) × (List (List UInt8)) × (List (List UInt8)) × (List (List UInt8))) => V.agg ((fun x : Int × (List (List UInt8)) × (List (List UInt8)) × (List (List UInt8)) × (List (List UInt8)) => ((vInt .i64) x.1).cells ++ (fun x : (List (List UInt8)) × (List (List UInt8)) × (List (List UInt8)) × (List (List UInt8)) => ((vSl 1 vStr) x.1).cells ++ (fun x : (List (List UInt8)) × (List (List UInt8)) × (List (List UInt8)) => ((vSl 1 vStr) x.1).cells ++ (fun x : (List (List UInt8)) × (List (List UInt8)) => ((vSl 1 vStr) x.1).cells ++ (fun a : (List (List UInt8)) => ((vSl 1 vStr) a).cells) x.2) x.2) x.2) x.2) b))) _)
  obtain ⟨aa0, len0, cap0, rfl⟩ := okWide_slice Try.underlying25 (hval 0 25 v0 rfl rfl)
  obtain ⟨a0, K0, G0⟩ := o0.out hf0 w0
  have A0 := arg_one o0 rfl rfl K0
  have k1 := h1
  have lt1 : ∀ x ∈ p1, x.block < W.heap.size := by obtain ⟨m, hm⟩ := k1; exact DataW.trod_lt m _ _ _ hm
  have w1 : ∀ n ∈ d1.weights Try.prog 3, n ≤ reachBytes := fun n hn => by
    have z := List.all_eq_true.1 hsz n (DataW.weights_mem_each (j := 1) (t := 3) rfl rfl n hn)
    simpa using z
  obtain ⟨fuel1, hf1⟩ := h1
  have o1 := (opens_int Try.underlying3 (by kernel_rfl) : Opens Try.prog 3 1 (vInt .i64) _)
  obtain ⟨nn1, rfl⟩ := okWide_int Try.underlying3 (hval 1 3 v1 rfl rfl)
  obtain ⟨a1, K1, G1⟩ := o1.out hf1 w1
  have A1 := arg_one o1 rfl rfl K1
  have k2 := h2
  have lt2 : ∀ x ∈ p2, x.block < W.heap.size := by obtain ⟨m, hm⟩ := k2; exact DataW.trod_lt m _ _ _ hm
  have w2 : ∀ n ∈ d2.weights Try.prog 9, n ≤ reachBytes := fun n hn => by
    have z := List.all_eq_true.1 hsz n (DataW.weights_mem_each (j := 2) (t := 9) rfl rfl n hn)
    simpa using z
  obtain ⟨fuel2, hf2⟩ := h2
  have o2 := (opens_string Try.underlying9 (by kernel_rfl) : Opens Try.prog 9 1 vStr _)
  obtain ⟨nn2, rfl⟩ := okWide_string Try.underlying9 (hval 2 9 v2 rfl rfl)
  obtain ⟨a2, K2, G2⟩ := o2.out hf2 w2
  have A2 := arg_one o2 rfl rfl K2
  have k3 := h3
  have lt3 : ∀ x ∈ p3, x.block < W.heap.size := by obtain ⟨m, hm⟩ := k3; exact DataW.trod_lt m _ _ _ hm
  have w3 : ∀ n ∈ d3.weights Try.prog 9, n ≤ reachBytes := fun n hn => by
    have z := List.all_eq_true.1 hsz n (DataW.weights_mem_each (j := 3) (t := 9) rfl rfl n hn)
    simpa using z
  obtain ⟨fuel3, hf3⟩ := h3
  have o3 := (opens_string Try.underlying9 (by kernel_rfl) : Opens Try.prog 9 1 vStr _)
  obtain ⟨nn3, rfl⟩ := okWide_string Try.underlying9 (hval 3 9 v3 rfl rfl)
  obtain ⟨a3, K3, G3⟩ := o3.out hf3 w3
  have A3 := arg_one o3 rfl rfl K3
  have k4 := h4
  have lt4 : ∀ x ∈ p4, x.block < W.heap.size := by obtain ⟨m, hm⟩ := k4; exact DataW.trod_lt m _ _ _ hm
  have w4 : ∀ n ∈ d4.weights Try.prog 3, n ≤ reachBytes := fun n hn => by
    have z := List.all_eq_true.1 hsz n (DataW.weights_mem_each (j := 4) (t := 3) rfl rfl n hn)
    simpa using z
  obtain ⟨fuel4, hf4⟩ := h4
  have o4 := (opens_int Try.underlying3 (by kernel_rfl) : Opens Try.prog 3 1 (vInt .i64) _)
  obtain ⟨nn4, rfl⟩ := okWide_int Try.underlying3 (hval 4 3 v4 rfl rfl)
  obtain ⟨a4, K4, G4⟩ := o4.out hf4 w4
  have A4 := arg_one o4 rfl rfl K4
  refine (law_calls tab_ok tab_ext (f := 4) (args := [(vSl 5 (fun b : (Int × (List (List UInt8)) × (List (List UInt8)) × (List (List UInt8)) × (List (List UInt8))) => V.agg ((fun x : Int × (List (List UInt8)) × (List (List UInt8)) × (List (List UInt8)) × (List (List UInt8)) => ((vInt .i64) x.1).cells ++ (fun x : (List (List UInt8)) × (List (List UInt8)) × (List (List UInt8)) × (List (List UInt8)) => ((vSl 1 vStr) x.1).cells ++ (fun x : (List (List UInt8)) × (List (List UInt8)) × (List (List UInt8)) => ((vSl 1 vStr) x.1).cells ++ (fun x : (List (List UInt8)) × (List (List UInt8)) => ((vSl 1 vStr) x.1).cells ++ (fun a : (List (List UInt8)) => ((vSl 1 vStr) a).cells) x.2) x.2) x.2) x.2) b))) a0, (vInt .i64) a1, vStr a2, vStr a3, (vInt .i64) a4]) (vs := [_, _, _, _, _]) (.cons A0 (.cons A1 (.cons A2 (.cons A3 (.cons A4 .nil))))) (Plain a0 G0 a1 G1 a2 G2 a3 G3 a4 G4)).mono ?_
  rintro e W' ⟨rfl, bel⟩
  exact ⟨_, rfl, _, _, _, [], _, [], hW', trodAll_mk1 (shut_bool Try.underlying4 _), (trodAll_cons_mk (Below.trod laidOut (by kernel_rfl) (of_decide_eq_true (by kernel_rfl)) k0 bel lt0) (trodAll_cons_mk (Below.trod laidOut (by kernel_rfl) (of_decide_eq_true (by kernel_rfl)) k1 bel lt1) (trodAll_cons_mk (Below.trod laidOut (by kernel_rfl) (of_decide_eq_true (by kernel_rfl)) k2 bel lt2) (trodAll_cons_mk (Below.trod laidOut (by kernel_rfl) (of_decide_eq_true (by kernel_rfl)) k3 bel lt3) (trodAll_cons_mk (Below.trod laidOut (by kernel_rfl) (of_decide_eq_true (by kernel_rfl)) k4 bel lt4) trodAll_mk0))))), rfl, bel.frame _, fun h => by cases h⟩
theorem over : Rows.threeTellsRow.holds Try.pinned (OpenSpec.ofChange Rows.threeTellsSpec) :=
  OpenClaim.holds_of_wide 4 Try.f4 rfl rfl rfl rfl rfl rfl rfl ⟨rfl, rfl, rfl, rfl, rfl⟩ rfl rfl rfl rfl rfl (by kernel_rfl) Try.func4 (by kernel_rfl)
    (of_decide_eq_true (by kernel_rfl)) (by unfold Func.isWrapper; first | (rw [if_pos (by decide +kernel)]; kernel_rfl) | (rw [if_neg (by decide +kernel)]; exact ⟨rfl, rfl⟩))
    (fun os started H enc _ => lifted os started H enc)
theorem proved : Rows.ThreeTellsSaid := over
#print axioms proved
end Go.Proofs.Ytnodepfoahmcmaa.threeTells
namespace Go.Proofs.Ytnodepfoahmcmaa
/-- The row, under a short name, for the claim. -/
theorem threeTells_holds : Rows.ThreeTellsSaid := threeTells.proved
end Go.Proofs.Ytnodepfoahmcmaa
