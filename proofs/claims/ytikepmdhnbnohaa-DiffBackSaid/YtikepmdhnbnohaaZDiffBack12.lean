-- put together by bundle.py, a program of this session, out of the texts named below
import Derived.Test.YtikepmdhnbnohaaZDiffBack2
import Derived.Test.YtikepmdhnbnohaaZDiffBack4
import Derived.Test.YtikepmdhnbnohaaZDiffBack6
import Derived.Test.YtikepmdhnbnohaaZDiffBack7
import Derived.Test.YtikepmdhnbnohaaZDiffBack8
import Derived.Test.YtikepmdhnbnohaaZDiffBack10
import Derived.Test.YtikepmdhnbnohaaZDiffBack11
import Derived.Test.YtikepmdhnbnohaaRows
import Derived.WalkKit
import Derived.ProofKit
import Derived.OpenShut
import Derived.ShutString
import Derived.ChangeOld
import Derived.Below
import Derived.SizedLaws
import Derived.Carry
-- text YtikepmdhnbnohaaPlApply8
section
/- Both Apply agree, and answer b for a valid script; a valid script is laid anew from its unchanged runs. Conditions: lists shorter than 2^40. -/
namespace Go.Proofs.Ytikepmdhnbnohaa.Pl
open Go.RowKit Go.Proofs.YtikepmdhnbnohaaW.PrintWords Go.Proofs.Ytikepmdhnbnohaa.P
set_option linter.unusedSimpArgs false
set_option linter.unusedVariables false
theorem drop_take_take {α : Type} (b : List α) (y z : Nat) (h : y ≤ z) : b.take y ++ (b.take z).drop y = b.take z := by
  rw [show b.take y = (b.take z).take y by rw [List.take_take, Nat.min_eq_left h], List.take_append_drop]
theorem apply_loop (a b : List ByteArray) (l : List Ed) (ha : a.length < 1099511627776) (hb : b.length < 1099511627776) (hl : l.length < 1099511627776) (hg : ∀ e ∈ l, EdI e) : ∀ (d i x y : Nat) (out : List ByteArray), i + d = l.length → x ≤ a.length → y ≤ b.length → out.length ≤ x + y →
    ∃ r, Ev (fun k => diff_Apply.l0 k a b out (x : Int) (y : Int) l (l.length : Int) (i : Int)) r ∧ Ev (fun k => graftageref08_Apply.l0 k a l b out (l.length : Int) (i : Int) (x : Int) 0 (y : Int) 0) r ∧ r.1.length ≤ a.length + b.length ∧
      (∀ f, out = b.take y → Scr f (x : Int) (y : Int) (a.drop x) (b.drop y) (l.drop i) → r = (b, 0)) := by
  intro d
  induction d with
  | zero =>
    intro i x y out hi hx hy ho
    refine ⟨(out ++ a.drop x, 0), Ev.end_ fun k => ?_, Ev.end_ fun k => ?_, ?_, ?_⟩
    · rw [diff_Apply.l0, if_neg (by omega), if_pos (by omega), if_pos (by omega), Int.toNat_natCast, if_pos (by rw [List.length_drop]; omega)]
    · rw [graftageref08_Apply.l0, if_neg (by omega), if_pos (by omega), if_pos (by omega), Int.toNat_natCast, if_pos (by rw [List.length_drop]; omega)]
    · dsimp only
      rw [List.length_append, List.length_drop]
      omega
    · intro f hout h
      rw [List.drop_eq_nil_of_le (show l.length ≤ i by omega), Scr.nil_iff] at h
      rw [hout, h, List.take_append_drop]
  | succ d ih =>
    intro i x y out hi hx hy ho
    have hil : i < l.length := by omega
    obtain ⟨e, hee⟩ : ∃ e, e = l[i] := ⟨_, rfl⟩
    have he : EdI e := by rw [hee]; exact hg _ (List.getElem_mem hil)
    have hre : rd_T44 l (i : Int) = e := by rw [rdE_at l i hil, hee]
    rw [drop_cons l i hil, ← hee]
    obtain ⟨r1, hr1, hi1⟩ := lies_is e he a.length b.length (by omega) (by omega) (by omega) (by omega)
    obtain ⟨r2, hr2, hi2⟩ := within_is e he x y a.length b.length 0 0 (by omega) (by omega) (by omega) (by omega) (by omega) (by omega)
    have h1 : ∀ k, diff_Apply.l0 (k + 1) a b out (x : Int) (y : Int) l (l.length : Int) (i : Int) = _ := fun k => by
      rw [diff_Apply.l0, if_pos (by omega), if_pos (by omega), if_pos (by omega), hre, hr1, Option.bind_some]
    have h2 : ∀ k, graftageref08_Apply.l0 (k + 1) a l b out (l.length : Int) (i : Int) (x : Int) 0 (y : Int) 0 = _ := fun k => by
      rw [graftageref08_Apply.l0, if_pos (by omega), if_pos (by omega), if_pos (by omega), hre, hr2, Option.bind_some]
    by_cases good : Lies e a.length b.length ∧ (x : Int) ≤ e.f0 ∧ (y : Int) ≤ e.f2
    · have t1 : r1 = true := hi1.2 good.1
      have t2 : r2 = true := hi2.2 good
      subst t1
      subst t2
      obtain ⟨⟨L1, L2, L3, L4, L5, L6⟩, gx, gy⟩ := good
      have e1 : (e.f0 + e.f1) = (((e.f0 + e.f1).toNat : Nat) : Int) := by omega
      have e2 : (e.f2 + e.f3) = (((e.f2 + e.f3).toNat : Nat) : Int) := by omega
      have lt1 : ((a.take e.f0.toNat).drop x).length = e.f0.toNat - x := by rw [List.length_drop, List.length_take]; omega
      have lt2 : ((b.take (e.f2 + e.f3).toNat).drop e.f2.toNat).length = (e.f2 + e.f3).toNat - e.f2.toNat := by rw [List.length_drop, List.length_take]; omega
      obtain ⟨r, hr, hs, hb2, hh⟩ := ih (i + 1) (e.f0 + e.f1).toNat (e.f2 + e.f3).toNat (out ++ (a.take e.f0.toNat).drop x ++ (b.take (e.f2 + e.f3).toNat).drop e.f2.toNat) (by omega) (by omega) (by omega) (by rw [List.length_append, List.length_append, lt1, lt2]; omega)
      refine ⟨r, Ev.step (fun k => ?_) hr, Ev.step (fun k => ?_) hs, hb2, ?_⟩
      · rw [h1, if_pos rfl, if_neg (by omega), if_neg (by omega), if_pos (by omega), if_pos (by omega), if_pos (by omega), Int.toNat_natCast, if_pos (by rw [lt1]; omega), Option.bind_some, w64 (n := e.f0 + e.f1) (by omega) (by omega), w64 (n := e.f2 + e.f3) (by omega) (by omega), if_pos (by omega), if_pos (by omega), if_pos (by omega), if_pos (by rw [List.length_append, lt1, lt2]; omega), w64 (n := (i : Int) + 1) (by omega) (by omega), ← e1, ← e2]
        rfl
      · rw [h2, if_pos rfl, if_pos (by omega), if_pos (by omega), if_pos (by omega), Int.toNat_natCast, if_pos (by rw [lt1]; omega), Option.bind_some, w64 (n := e.f0 + e.f1) (by omega) (by omega), w64 (n := e.f2 + e.f3) (by omega) (by omega), if_pos (by omega), if_pos (by omega), if_pos (by omega), if_pos (by rw [List.length_append, lt1, lt2]; omega), w64 (n := (i : Int) + 1) (by omega) (by omega), ← e1, ← e2]
        rfl
      · intro f hout h
        rw [Scr.cons_iff _ a b x y hx hy] at h
        obtain ⟨_, _, _, _, _, c, h⟩ := h
        refine hh false ?_ ?_
        · rw [hout, c, drop_take_take b y e.f2.toNat (by omega), drop_take_take b e.f2.toNat _ (by omega)]
        · rw [← e1, ← e2]
          exact h
    · refine ⟨([], 80), Ev.end_ fun k => ?_, Ev.end_ fun k => ?_, by simp, ?_⟩
      · rw [h1]
        cases r1 with
        | false => rw [if_neg (by simp)]
        | true =>
          have := hi1.1 rfl
          rw [if_pos rfl]
          by_cases c1 : e.f0 < (x : Int)
          · rw [if_pos c1]
          · rw [if_neg c1, if_pos (by
              refine Classical.byContradiction fun z => good ⟨this, by omega, by omega⟩)]
      · rw [h2]
        cases r2 with
        | false => rw [if_neg (by simp)]
        | true => exact absurd (hi2.1 rfl) good
      · intro f hout h
        rw [Scr.cons_iff _ a b x y hx hy] at h
        exact absurd ⟨h.1, h.2.2.1, h.2.2.2.1⟩ good
theorem apply_ev (a b : List ByteArray) (l : List Ed) (ha : a.length < 1099511627776) (hb : b.length < 1099511627776) (hl : l.length < 1099511627776) (hg : ∀ e ∈ l, EdI e) :
    ∃ r, Ev (fun k => diff_Apply.f k a l b) r ∧ Ev (fun k => graftageref08_Apply.f k a l b) r ∧ r.1.length ≤ a.length + b.length ∧ (Scr true 0 0 a b l → r = (b, 0)) := by
  obtain ⟨r, h1, h2, h3, h4⟩ := apply_loop a b l ha hb hl hg l.length 0 0 0 [] (by omega) (by omega) (by omega) (by simp)
  exact ⟨r, h1, h2, h3, fun h => h4 true rfl h⟩
def runs (l : List Rn) : Int := (l.map fun e => e.f2).foldr (· + ·) 0
theorem edits_of {l : List Ed} (h : ∀ e ∈ l, (Lit.int .i64 e.f0).wf = true ∧ (Lit.int .i64 e.f1).wf = true ∧ (Lit.int .i64 e.f2).wf = true ∧ (Lit.int .i64 e.f3).wf = true) : ∀ e ∈ l, EdI e := fun e he => by
  obtain ⟨h0, h1, h2, h3⟩ := h e he
  exact ⟨wfI h0, wfI h1, wfI h2, wfI h3⟩
end Go.Proofs.Ytikepmdhnbnohaa.Pl
end
-- text YtikepmdhnbnohaaPureDiffBack
section
/- The plain statement of the law DiffBack: a valid script turns a into b, and its inverse b into a. Conditions: none beyond the statement's own. -/
namespace Go.Proofs.Ytikepmdhnbnohaa.Pure
open Go.RowKit Go.Proofs.YtikepmdhnbnohaaW.PrintWords Go.Proofs.Ytikepmdhnbnohaa.P Go.Proofs.Ytikepmdhnbnohaa.Pl
set_option linter.unusedSimpArgs false
set_option linter.unusedVariables false
theorem DiffBack : graftagelaw08_DiffBack.Pure := by
  intro l0 l1 l2 h0 h1 h2
  refine Ev.rounds ?_
  have yes : Ev (fun k => graftagelaw08_DiffBack.j0 k l0 l1 l2 true) true := by
    refine Ev.step (f := fun k => (graftagelaw08_lives.f k).bind fun t => some t) (fun k => ?_) (Ev.bind lives_ev (Ev.now _))
    rw [graftagelaw08_DiffBack.j0, if_pos rfl]
  have e1 := Ev.bind (f := fun _ (t : Bool) => some t) lives_ev (Ev.now true)
  obtain ⟨r0, hr0, hs0⟩ := short_ev l0 (by omega)
  obtain ⟨r1, hr1, hs1⟩ := short_ev l1 (by omega)
  have hg := edits_of h2.2
  unfold graftagelaw08_DiffBack.f
  refine Ev.bind hr0 ?_
  by_cases c0 : r0 = true
  case neg =>
    refine Ev.congr (fun k => ?_) yes
    rw [if_neg c0]
  refine Ev.congr (fun k => if_pos c0) ?_
  refine Ev.bind hr1 ?_
  by_cases c1 : r1 = true
  case neg =>
    refine Ev.congr (fun k => ?_) yes
    rw [if_neg c1]
  refine Ev.congr (fun k => if_pos c1) ?_
  have b0 := hs0 c0
  have b1 := hs1 c1
  by_cases c2 : (l2.length : Int) > 200
  · refine Ev.congr (fun k => ?_) yes
    rw [if_pos c2]
  refine Ev.congr (fun k => if_neg c2) ?_
  obtain ⟨rv, hv, hvi⟩ := valid_ev l0 l1 l2 (by omega) (by omega) (by omega) hg
  refine Ev.bind hv ?_
  cases rv with
  | false => exact yes
  | true =>
  have hS := hvi.1 rfl
  refine Ev.step (fun k => by rw [graftagelaw08_DiffBack.j0, if_neg (by simp)]) ?_
  have hg' : ∀ e ∈ inv l2, EdI e := by
    intro e he
    obtain ⟨e', he', rfl⟩ := List.mem_map.1 he
    have := hg e' he'
    exact ⟨this.2.2.1, this.2.2.2, this.1, this.2.1⟩
  have hl' : (inv l2).length = l2.length := by simp [inv]
  obtain ⟨ra, ha, _, _, ha4⟩ := apply_ev l0 l1 l2 (by omega) (by omega) (by omega) hg
  obtain ⟨rb, hb, _, _, hb4⟩ := apply_ev l1 l0 (inv l2) (by omega) (by omega) (by omega) hg'
  obtain ⟨rw', hw, hwi⟩ := valid_ev l1 l0 (inv l2) (by omega) (by omega) (by omega) hg'
  have ea := ha4 hS
  have eb := hb4 hS.inv
  have ew := hwi.2 hS.inv
  subst ea
  subst eb
  subst ew
  refine Ev.bind ha (Ev.bind (invert_ev l2 (by omega)) (Ev.bind hb ?_))
  refine Ev.congr (fun k => by rw [if_pos rfl, if_pos rfl]) ?_
  refine Ev.bind (same_ev l1 l1 (by omega)) ?_
  simp only [decide_true, if_true]
  refine Ev.bind (same_ev l0 l0 (by omega)) ?_
  simp only [decide_true, if_true]
  refine Ev.bind hw ?_
  simp only [if_true]
  refine Ev.bind (cost_ev (inv l2) (by omega)) (Ev.bind (cost_ev l2 (by omega)) ?_)
  rw [cost_inv]
  refine Ev.congr (fun k => if_pos rfl) ?_
  refine Ev.bind (invert_ev (inv l2) (by omega)) ?_
  rw [inv_inv]
  refine Ev.bind (edits_same l2 (by omega)) ?_
  simp only [if_true]
  exact e1
end Go.Proofs.Ytikepmdhnbnohaa.Pure
end
-- text YtikepmdhnbnohaaLawDiffBack
section
/- The law DiffBack of the given program holds: for every input that the row speaks of, the call returns true and each argument reads behind the call as it read before. Conditions: none beyond the row's own. (Written by mp.py, a program of this session, over the kit's printer.) -/
namespace Go.Proofs.Ytikepmdhnbnohaa.diffBack
open Go.ChangeShapes Go.WideShapes Go.ChangeAt Go.RowKit Go.Proofs.YtikepmdhnbnohaaW.PrintWords Go.Proofs.Ytikepmdhnbnohaa.P Go.Proofs.Ytikepmdhnbnohaa.Op
open Go.ChangeMaps (open_string shut_string)
set_option linter.unusedVariables false
theorem own : ownKnob Try.prog.godebug = none := by kernel_rfl
theorem laidOut : laidOutB Try.prog = true := by kernel_rfl
set_option maxRecDepth 100000 in
theorem lifted (P : graftagelaw08_DiffBack.Pure) (os : Os) (started : os.Started) (H : Type) (enc : TypeId × Value → H) :
    ReturnsInHanded {} Try.checked os 6 .any (Rows.diffBackSpec.pre6 enc Try.prog Try.f6 Rows.diffBackRow.domain false) (Rows.diffBackSpec.post enc Try.prog Try.f6 false true false false) := by
  refine returnsInHanded_of_change_sized (C := Try.checked) own started (by kernel_rfl) Try.func6
    (ChangeSpec.witness6 (enc := enc) (C := Try.checked) false ⟨#[], #[.slice none 0 0, .slice none 0 0, .slice none 0 0], []⟩ 8 (by kernel_rfl) (by kernel_rfl) (by kernel_rfl) (by kernel_rfl)) ?_
  intro W base args ds gs before hval0 hW hcnd hsz0 _
  have hsz : (DataW.weightsEach Try.prog (Try.f6.params.toList ++ Rows.diffBackSpec.plain.varTypes Try.prog) (ds ++ gs)).all (· ≤ reachBytes) = true := hsz0
  have hval : ∀ (j : Nat) t v, Try.f6.params[j]? = some t → args[j]? = some v → Value.okWide Try.prog W .any base t v := hval0
  have hW' := hW
  obtain ⟨p, q, hA0, hV, rfl, hfz, hnd⟩ := hW
  have hA : DataW.TrodAll enc Try.prog W 0 (fun _ => true) true Try.f6.params.toList args.toList ds p := hA0
  rw [Try.params6] at hA hval hsz
  obtain ⟨v0, vs0, d0, ds0, p0, q0, hargs, rfl, rfl, h0, r0⟩ := trodAll_cons hA
  obtain ⟨v1, vs1, d1, ds1, p1, q1, rfl, rfl, rfl, h1, r1⟩ := trodAll_cons r0
  obtain ⟨v2, vs2, d2, ds2, p2, q2, rfl, rfl, rfl, h2, r2⟩ := trodAll_cons r1
  obtain ⟨rfl, rfl, rfl⟩ := trodAll_nil r2
  obtain rfl : args = #[v0, v1, v2] := by cases args; simp_all
  obtain ⟨rfl, rfl⟩ := trodVars_none hV
  have k0 := h0
  have lt0 : ∀ x ∈ p0, x.block < W.heap.size := by obtain ⟨m, hm⟩ := k0; exact DataW.trod_lt m _ _ _ hm
  have w0 : ∀ n ∈ d0.weights Try.prog 22, n ≤ reachBytes := fun n hn => by
    have z := List.all_eq_true.1 hsz n (DataW.weights_mem_each (j := 0) (t := 22) rfl rfl n hn)
    simpa using z
  obtain ⟨fuel0, hf0⟩ := h0
  obtain ⟨aa0, len0, cap0, rfl⟩ := okWide_slice Try.underlying22 (hval 0 22 v0 rfl rfl)
  obtain ⟨l0, K0, G0⟩ := (opens_slice 16 Try.underlying22 (by kernel_rfl) (by kernel_rfl) (opens_string Try.underlying9 (by kernel_rfl) : Opens Try.prog 9 Kd.string _) : Opens Try.prog 22 (Kd.slice 9 Kd.string) _).out hf0 w0
  obtain ⟨rfl, hc0, hr0⟩ := slice_arg K0
  have k1 := h1
  have lt1 : ∀ x ∈ p1, x.block < W.heap.size := by obtain ⟨m, hm⟩ := k1; exact DataW.trod_lt m _ _ _ hm
  have w1 : ∀ n ∈ d1.weights Try.prog 22, n ≤ reachBytes := fun n hn => by
    have z := List.all_eq_true.1 hsz n (DataW.weights_mem_each (j := 1) (t := 22) rfl rfl n hn)
    simpa using z
  obtain ⟨fuel1, hf1⟩ := h1
  obtain ⟨aa1, len1, cap1, rfl⟩ := okWide_slice Try.underlying22 (hval 1 22 v1 rfl rfl)
  obtain ⟨l1, K1, G1⟩ := (opens_slice 16 Try.underlying22 (by kernel_rfl) (by kernel_rfl) (opens_string Try.underlying9 (by kernel_rfl) : Opens Try.prog 9 Kd.string _) : Opens Try.prog 22 (Kd.slice 9 Kd.string) _).out hf1 w1
  obtain ⟨rfl, hc1, hr1⟩ := slice_arg K1
  have k2 := h2
  have lt2 : ∀ x ∈ p2, x.block < W.heap.size := by obtain ⟨m, hm⟩ := k2; exact DataW.trod_lt m _ _ _ hm
  have w2 : ∀ n ∈ d2.weights Try.prog 26, n ≤ reachBytes := fun n hn => by
    have z := List.all_eq_true.1 hsz n (DataW.weights_mem_each (j := 2) (t := 26) rfl rfl n hn)
    simpa using z
  obtain ⟨fuel2, hf2⟩ := h2
  obtain ⟨aa2, len2, cap2, rfl⟩ := okWide_slice Try.underlying26 (hval 2 26 v2 rfl rfl)
  obtain ⟨l2, K2, G2⟩ := (opens_slice 32 Try.underlying26 (by kernel_rfl) (by kernel_rfl) op44 : Opens Try.prog 26 (Kd.slice 44 k44) _).out hf2 w2
  obtain ⟨rfl, hc2, hr2⟩ := slice_arg K2
  obtain ⟨k, h⟩ := P l0 l1 l2 G0 G1 G2
  refine (graftagelaw08_DiffBack.calls k _ _ l0 _ _ l1 _ _ l2 true W hr0 hc0 hr1 hc1 hr2 hc2 h).mono ?_
  rintro e W' ⟨rfl, hd⟩
  have bel : Below W.heap.size W W' := hd
  exact ⟨_, rfl, _, _, _, [], _, [], hW', trodAll_mk1 (shut_bool Try.underlying4 _), (trodAll_cons_mk (Below.trod laidOut (by kernel_rfl) (of_decide_eq_true (by kernel_rfl)) k0 bel lt0) (trodAll_cons_mk (Below.trod laidOut (by kernel_rfl) (of_decide_eq_true (by kernel_rfl)) k1 bel lt1) (trodAll_cons_mk (Below.trod laidOut (by kernel_rfl) (of_decide_eq_true (by kernel_rfl)) k2 bel lt2) trodAll_mk0))), rfl, bel.frame _, fun h => by cases h⟩
theorem over (P : graftagelaw08_DiffBack.Pure) : Rows.diffBackRow.holds Try.pinned (OpenSpec.ofChange Rows.diffBackSpec) :=
  OpenClaim.holds_of_wide 6 Try.f6 rfl rfl rfl rfl rfl rfl rfl ⟨rfl, rfl, rfl, rfl, rfl⟩ rfl rfl rfl rfl rfl (by kernel_rfl) Try.func6 (by kernel_rfl)
    (of_decide_eq_true (by kernel_rfl)) (by unfold Func.isWrapper; first | (rw [if_pos (by decide +kernel)]; kernel_rfl) | (rw [if_neg (by decide +kernel)]; exact ⟨rfl, rfl⟩))
    (fun os started H enc _ => lifted P os started H enc)
theorem proved : Rows.DiffBackSaid := over Pure.DiffBack
#print axioms proved
end Go.Proofs.Ytikepmdhnbnohaa.diffBack
namespace Go.Proofs.Ytikepmdhnbnohaa
/-- The row, under a short name, for the claim. -/
theorem diffBack_holds : Rows.DiffBackSaid := diffBack.proved
end Go.Proofs.Ytikepmdhnbnohaa
end
