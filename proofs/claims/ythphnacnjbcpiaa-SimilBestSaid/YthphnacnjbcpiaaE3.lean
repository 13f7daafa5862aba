/- The engine, bundle 3: values as trees, abstract code, and that what abstract code says the machine does. Conditions: none. -/
import Derived.Below
import Derived.BigCall
import Derived.ChangeArms
import Derived.DataReads
import Derived.Deep.Slices
import Derived.Laws.Sem
import Derived.Orders
import Derived.SizedLaws
import Derived.WideShapes
import Derived.Test.YthphnacnjbcpiaaE2
/- The engine, part Y: what a call is to the machine; one operation; a list of operations in the order of the text. Conditions: none. -/
namespace Go.Proofs.Ythphnacnjbcpiaa.E
set_option linter.unusedVariables false
set_option linter.unusedSimpArgs false

/-- What a call is to the machine. -/
def XS (P : Program) : Sem3 := fun f v args heap n Q => entersB P f = true ∧ ∀ (w : World) (G : Nat → Nat) (φ : Nat → Option Nat) (vs : List Value), HPre w G φ args vs heap n → Calls P f vs.toArray w fun e w' => ∃ r u heap' n' G' φ', e = .returned u ∧ Q r heap' n' ∧ HRes w G φ args vs heap n r heap' n' u w' G' φ'

section
variable {P : Program} {w : World} {G : Nat → Nat} {φ : Nat → Option Nat} {st : St} {act : Act} {ts : Array Value} {X : Sem3}

/-- What an operation does to a state. -/
def does (X : Sem3) (a : AOp) (st : St) (e : Eff) : Prop := match a.k with
  | .call f v args => (args.map st.ev).all noH = true ∧ ∃ r Q0, X f v (args.map st.ev) [] 0 Q0 ∧ (∀ r' h n, Q0 r' h n → r' = r) ∧ noH r = true ∧ e = ⟨st.moves args ++ dstw a.dst r, [], 0, none⟩
  | .callH v x args => match st.ev x with
    | .fn f cap => ∃ r hp n Q0, X f v (args.map st.ev ++ cap.map clr) st.heap st.ctr Q0 ∧ (∀ r' h' n', Q0 r' h' n' → r' = r ∧ h' = hp ∧ n' = n) ∧ e = ⟨st.moves args ++ dstw a.dst r, [], n - st.ctr, some hp⟩
    | _ => False
  | _ => eff a st = some e

/-- The machine at one operation, for whatever comes next. -/
def OpGoes (P : Program) (o : Oper) (w : World) (G : Nat → Nat) (φ : Nat → Option Nat) (st : St) (act : Act) (nt : Nat) (Post : St → Prop) : Prop :=
  ∀ (next : Act → World → Prop) (Q : Exit → Act → World → Prop), (∀ st' act' w' G' φ', Post st' → Inv w' G' φ' st' act'.tmps → act'.tmps.size = nt → act'.defers = act.defers → Goes w G φ st act.tmps w' G' φ' st' act'.tmps → next act' w') → o.wp P act w next Q

theorem opGoes_of_sound {o : Oper} {nt : Nat} {st' : St} {Post : St → Prop} (h : Sound P o w G φ st act nt st') (hp : Post st') : OpGoes P o w G φ st act nt Post := by
  intro next Q hnext
  obtain ⟨v, w', G', φ', hrun, hrest⟩ := h
  unfold Oper.wp
  rw [hrun]
  by_cases hs : isStore o.op = true
  · rw [if_pos hs]
    simp only [hs, if_true] at hrest
    exact hnext st' _ w' G' φ' hp hrest.1 hrest.2.1 hrest.2.2.1 hrest.2.2.2
  · rw [if_neg hs]
    simp only [hs] at hrest
    exact hnext st' _ w' G' φ' hp hrest.1 hrest.2.1 hrest.2.2.1 hrest.2.2.2

theorem sound_eff {ops : Array Oper} {o : Oper} {a : AOp} {nt : Nat} {e : Eff} (hk : okOp P nt ops o a = true) (hnh : ∀ f args, a.k ≠ .h f args) (he : eff a st = some e) (h : Inv w G φ st act.tmps) (hn : act.tmps.size = nt) : Sound P o w G φ st act nt (st.app e) := by
  unfold okOp at hk
  simp only [Bool.and_eq_true] at hk
  obtain ⟨⟨⟨k1, k2⟩, k3⟩, k4⟩ := hk
  have hd : o.dst = a.dst := by simpa using k1
  unfold okK at k4
  cases hak : a.k <;> rw [hak] at k4
  case p f args =>
    simp only [Bool.and_eq_true, decide_eq_true_iff] at k4
    exact sound_p hd k2 hak k4.1.1 k4.1.2 k4.2 he h hn
  case a f args =>
    simp only [Bool.and_eq_true, decide_eq_true_iff] at k4
    exact sound_a hd k2 hak k4.1.1 k4.1.2 k4.2 he h hn
  case extr s i =>
    cases hop : o.op <;> rw [hop] at k4 <;> first | (cases k4; done) | skip
    rename_i x ix
    cases x <;> first | (cases k4; done) | skip
    rename_i t
    simp only [Bool.and_eq_true, beq_iff_eq] at k4
    obtain ⟨rfl, rfl⟩ := k4
    exact sound_extr hd k2 hak hop he h hn
  case box s x =>
    cases hop : o.op <;> rw [hop] at k4 <;> first | (cases x <;> cases k4; done) | skip
    · rename_i el
      cases x <;> first | (cases k4; done) | skip
      rename_i y
      simp only at k4
      split at k4 <;> first | (cases k4; done) | skip
      rename_i i hi
      split at k4 <;> first | (cases k4; done) | skip
      rename_i z hz
      have hsol : solid y = true := by
        unfold eff at he
        rw [hak] at he
        simp only at he
        by_cases hb : solid (st.ev (.c y)) = true ∧ (st.ev (.c y)).cells.all okCell = true
        · exact hb.1
        · rw [if_neg hb] at he; cases he
      refine sound_box (v := z) (el := el) hd k2 hak (by intro t p x hs; rw [hop] at hs; cases hs) ?_ (.inr ⟨y, rfl, hsol, okCL_cells k4⟩) he h hn
      unfold execOp; rw [hop]
      refine exec_vm ?_
      unfold Instr.alloc
      rw [Sem.run_bind, run_zeroValue' hi hz, Result.andThen_ok]
      rfl
    · rename_i el v
      have k4' : okOpd v x = true := by cases x <;> exact k4
      refine sound_box (v := act.eval v) (el := el) hd k2 hak (by intro t p x hs; rw [hop] at hs; cases hs) ?_ (.inl (okOpd_ok k4')) he h hn
      unfold execOp; rw [hop]
      exact exec_vm rfl
  case loadL s p n tk =>
    cases hop : o.op <;> rw [hop] at k4 <;> first | (cases k4; done) | skip
    simp only [Bool.and_eq_true] at k4
    exact sound_loadL hd k2 hak hop k4.1 (okOpd_ok k4.2) he h hn
  case storeL s n p x =>
    cases hop : o.op <;> rw [hop] at k4 <;> first | (cases k4; done) | skip
    simp only [Bool.and_eq_true] at k4
    exact sound_storeL hd k2 hak hop k4.1.1 (okOpd_ok k4.1.2) (okOpd_ok k4.2) he h hn
  case call f v args =>
    unfold eff at he
    rw [hak] at he
    cases he
  case h f args => exact absurd hak (hnh f args)
  case callH v x args =>
    unfold eff at he
    rw [hak] at he
    cases he

/-- An operation on blocks. -/
theorem goes_h {ops : Array Oper} {o : Oper} {a : AOp} {nt : Nat} {f : HK} {args : List Opd} {e : Eff} {Post : St → Prop} (hk : okOp P nt ops o a = true) (hak : a.k = .h f args) (he : eff a st = some e) (h : Inv w G φ st act.tmps) (hn : act.tmps.size = nt) (hP : Post (st.app e)) : OpGoes P o w G φ st act nt Post := by
  intro next Q hnext
  unfold okOp at hk
  simp only [Bool.and_eq_true] at hk
  obtain ⟨⟨⟨k1, k2⟩, k3⟩, k4⟩ := hk
  have hd : o.dst = a.dst := by simpa using k1
  unfold okK at k4
  rw [hak] at k4
  simp only [Bool.and_eq_true, decide_eq_true_iff] at k4
  unfold eff at he
  rw [hak] at he
  simp only at he
  obtain ⟨q, hq, rfl⟩ := Option.map_eq_some_iff.1 he
  have hargs := okArgs_ok (w := w) (G := G) (φ := φ) (st := st) (act := act) k4.1.2
  obtain ⟨u, w', G', φ', hrun, H⟩ := hf_ok k4.1.1 (hpre hargs k4.2 h) hq
  have hc : q.2.2 = st.ctr + q.2.2 - st.ctr := by omega
  have hst : st.app ⟨st.moves args ++ dstw a.dst q.1, [], q.2.2, some q.2.1⟩ = st.app ⟨st.moves args ++ dstw o.dst q.1, [], st.ctr + q.2.2 - st.ctr, some q.2.1⟩ := by rw [hd, ← hc]
  have go : ∀ u', HRes w G φ (args.map st.ev) ((opArgs o.op).map act.eval) st.heap st.ctr q.1 q.2.1 (st.ctr + q.2.2) u' w' G' φ' → next (act.put o.dst u') w' := fun u' H' => by
    obtain ⟨g1, g2, g3, g4⟩ := goes_heap hargs k4.2 h hn (d := o.dst) (by rw [hd]; exact k2) H'
    exact hnext _ _ w' G' φ' hP (by rw [hst]; exact g1) g2 g3 (by rw [hst]; exact g4)
  unfold Oper.wp
  rw [hrun]
  by_cases hv : voidB o.op = true
  · rw [if_pos hv]
    have hj := void_junk k4.1.1 hv hq
    rw [hj] at H
    have := go undef (by rw [hj]; exact H.junk)
    exact this
  · rw [if_neg hv]
    exact go u H

theorem goes_eff {ops : Array Oper} {o : Oper} {a : AOp} {nt : Nat} {e : Eff} {Post : St → Prop} (hk : okOp P nt ops o a = true) (he : eff a st = some e) (h : Inv w G φ st act.tmps) (hn : act.tmps.size = nt) (hP : Post (st.app e)) : OpGoes P o w G φ st act nt Post := by
  by_cases hh : ∃ f args, a.k = .h f args
  · obtain ⟨f, args, hak⟩ := hh
    exact goes_h hk hak he h hn hP
  · exact opGoes_of_sound (sound_eff hk (fun f args e => hh ⟨f, args, e⟩) he h hn) hP

theorem All2.zip_mem {α β : Type} {p : α → β → Prop} {x : List α} {y : List β} (h : All2 p x y) : ∀ q ∈ x.zip y, p q.1 q.2 := by
  induction h with
  | nil => simp
  | cons hp _ ih =>
    intro q hq
    simp only [List.zip_cons_cons, List.mem_cons] at hq
    rcases hq with rfl | hq
    · exact hp
    · exact ih q hq

/-- A call that sees no block of the state. -/
theorem goes_call {ops : Array Oper} {o : Oper} {a : AOp} {nt f v : Nat} {args : List Opd} {Q0 : V → Heap → Nat → Prop} {Post : St → Prop} (hk : okOp P nt ops o a = true) (hak : a.k = .call f v args) (hh : (args.map st.ev).all noH = true) (hX : XS P f v (args.map st.ev) [] 0 Q0)
    (hQ : ∀ r h n, Q0 r h n → noH r = true ∧ Post (st.app ⟨st.moves args ++ dstw a.dst r, [], 0, none⟩)) (h : Inv w G φ st act.tmps) (hn : act.tmps.size = nt) : OpGoes P o w G φ st act nt Post := by
  intro next Q hnext
  unfold okOp at hk
  simp only [Bool.and_eq_true] at hk
  obtain ⟨⟨⟨k1, k2⟩, k3⟩, k4⟩ := hk
  have hd : o.dst = a.dst := by simpa using k1
  unfold okK at k4
  rw [hak] at k4
  cases hop : o.op <;> rw [hop] at k4 <;> first | (cases k4; done) | skip
  rename_i c
  obtain ⟨ce, oargs, ats⟩ := c
  simp only [Bool.and_eq_true, decide_eq_true_iff] at k4
  obtain ⟨⟨⟨k5, k6⟩, k7⟩, hen⟩ := k4
  cases ce <;> first | (cases k5; done) | skip
  rename_i fo
  cases fo <;> first | (cases k5; done) | skip
  rename_i g
  have hfg : f = g := by simpa using k5
  subst hfg
  have hargs := okArgs_ok (w := w) (G := G) (φ := φ) (st := st) (act := act) k6
  obtain ⟨hx, htl⟩ := evs_R h hargs
  obtain ⟨st1, rfl, i1, i2, _⟩ := h.moves args _ hargs k7
  obtain ⟨vs, hvs⟩ : ∃ vs, vs = oargs.toList.map act.eval := ⟨_, rfl⟩
  rw [← hvs] at hx htl hargs i2
  have hx0 : All2 (fun x u => R w G (fun _ => none) x u ∧ Tail w G x u) (args.map st.ev) vs := by
    have key : ∀ {xs : List V} {us : List Value}, xs.all noH = true → All2 (R w G φ) xs us → (∀ p ∈ xs.zip us, Tail w G p.1 p.2) → All2 (fun x u => R w G (fun _ => none) x u ∧ Tail w G x u) xs us := by
      intro xs us hn hr ht
      induction hr with
      | nil => exact .nil
      | cons hp _ ih =>
        simp only [List.all_cons, Bool.and_eq_true] at hn
        exact .cons ⟨hp.noH hn.1, ht (_, _) (List.mem_cons.2 (.inl rfl))⟩ (ih hn.2 fun q hq => ht q (List.mem_cons.2 (.inr hq)))
    exact key hh hx htl
  have hcall := hX.2 w G (fun _ => none) vs ⟨hx0, by simp, List.Pairwise.nil, (fun b => by
    have := i2 b; have := h.cnt b
    simp only [cntH, List.map_nil, List.sum_nil]; omega), (fun b m hb => by cases hb), h.zero⟩
  unfold entersB at hen
  cases hfn : P.funcs[f]? with
  | none => rw [hfn] at hen; cases hen
  | some fn =>
    rw [hfn] at hen
    simp only [Bool.and_eq_true] at hen
    have hrun : (execOp act.eval o).run P w = .ok (.enter f vs.toArray) w := by
      have hva : oargs.map act.eval = vs.toArray := by
        apply Array.toList_inj.1
        rw [hvs]; simp
      have h1 : execOp act.eval o = callFunc f (#[] ++ oargs.map act.eval ++ #[]) := by unfold execOp; rw [hop]; rfl
      obtain ⟨c, hc⟩ := Option.isSome_iff_exists.1 hen.2
      have hnm : fn.name ≠ "runtime.NumGoroutine" := by simpa using hen.1
      rw [h1, hva, Array.empty_append, Array.append_empty]
      simp [callFunc, hfn, hnm, hc]
    unfold Oper.wp
    rw [hrun, Oper.upon_enter]
    refine Calls.mono hcall fun e w' he => ?_
    obtain ⟨r, u, heap', n', G', φ', rfl, hq, H⟩ := he
    obtain ⟨hr, ht, _, _, hcn, _, _, hz, hext, _, hfr⟩ := H
    obtain ⟨hnr, hpost⟩ := hQ r heap' n' hq
    have hown : ∀ b, cnt w φ { st with env := sets st.env (st.moves args) } act.tmps b ≠ 0 → w'.heap[b]? = w.heap[b]? ∧ G' b = G b := fun b hb => by
      have h1 := i2 b; have h2 := h.cnt b
      have := hfr b (i1.lt hb) (by simp only [cntH, List.map_nil, List.sum_nil]; omega)
      exact ⟨this.1, this.2.1⟩
    have i3 := i1.ext hext (fun _ _ h => h) st.ctr i1.ctr hown hz
    have hcc : ∀ b, cnt w' φ { st with env := sets st.env (st.moves args) } act.tmps b = cnt w φ { st with env := sets st.env (st.moves args) } act.tmps b := fun b => cnt_congr i1 (fun _ _ h => h) (fun b hb => (hown b hb).1) b
    have htk : ∀ b, cnt w φ { st with env := sets st.env (st.moves args) } act.tmps b + tk r u b ≤ 1 := fun b => by
      have h1 := i2 b; have h2 := h.cnt b; have h3 := hcn b
      by_cases c : cnt w φ { st with env := sets st.env (st.moves args) } act.tmps b = 0
      · omega
      · have hv0 : vtk (args.map st.ev) vs b = 0 := by omega
        have := hfr b (i1.lt c) (by simp only [cntH, List.map_nil, List.sum_nil]; omega)
        omega
    have hfin := put_fin (w := w') (G := G') (st1 := { st with env := sets st.env (st.moves args) }) i3 hn (d := o.dst) (by rw [hd]; exact k2) (hr.noH hnr) ht (fun b => by rw [hcc b]; exact htk b)
    have hst : st.app ⟨st.moves args ++ dstw a.dst r, [], 0, none⟩ = ⟨sets (sets st.env (st.moves args)) (dstw o.dst r), st.loc, st.heap, st.ctr⟩ := by
      rw [hd]; simp [St.app, sets_append, sets]
    refine hnext _ _ w' G' φ hpost ?_ hfin.2.1 hfin.2.2.1 ?_
    · rw [hst]; exact hfin.1
    · rw [hst]
      refine ⟨hext, fun _ _ h => h, fun b hb hc => ?_, Nat.le_refl _⟩
      have h1 := i2 b
      have := hfr b hb (by simp only [cntH, List.map_nil, List.sum_nil]; omega)
      refine ⟨this.1, this.2.1, ?_⟩
      have h4 : cnt w' φ ⟨sets (sets st.env (st.moves args)) (dstw o.dst r), st.loc, st.heap, st.ctr⟩ (act.put o.dst u).tmps b ≤ _ := hfin.2.2.2 b
      rw [hcc b] at h4
      omega

/-- A call that works on the state's blocks. -/
theorem goes_callH {ops : Array Oper} {o : Oper} {a : AOp} {nt f v : Nat} {x : Opd} {cap : List V} {args : List Opd} {Q0 : V → Heap → Nat → Prop} {Post : St → Prop} (hk : okOp P nt ops o a = true) (hak : a.k = .callH v x args) (hx : st.ev x = .fn f cap) (hX : XS P f v (args.map st.ev ++ cap.map clr) st.heap st.ctr Q0)
    (hQ : ∀ r h n, Q0 r h n → Post (st.app ⟨st.moves args ++ dstw a.dst r, [], n - st.ctr, some h⟩)) (h : Inv w G φ st act.tmps) (hn : act.tmps.size = nt) : OpGoes P o w G φ st act nt Post := by
  intro next Q hnext
  unfold okOp at hk
  simp only [Bool.and_eq_true] at hk
  obtain ⟨⟨⟨k1, k2⟩, k3⟩, k4⟩ := hk
  have hd : o.dst = a.dst := by simpa using k1
  unfold okK at k4
  rw [hak] at k4
  cases hop : o.op <;> rw [hop] at k4 <;> first | (cases k4; done) | skip
  rename_i c
  obtain ⟨ce, oargs, ats⟩ := c
  simp only [Bool.and_eq_true, decide_eq_true_iff] at k4
  obtain ⟨⟨k5, k6⟩, k7⟩ := k4
  cases ce <;> first | (cases k5; done) | skip
  rename_i y
  have hfr := (ev_R h (okOpd_ok k5)).1
  rw [hx] at hfr
  generalize hy : act.eval y = yv at hfr
  cases hfr with | fn _ _ _ caps hl hr =>
  have hargs := okArgs_ok (w := w) (G := G) (φ := φ) (st := st) (act := act) k6
  obtain ⟨vs, hvs⟩ : ∃ vs, vs = oargs.toList.map act.eval := ⟨_, rfl⟩
  rw [← hvs] at hargs
  have hp := hpre hargs k7 h
  have hcap : All2 (fun x u => R w G φ x u ∧ Tail w G x u) (cap.map clr) caps.toList := by
    have key : ∀ (cap : List V) (cs : List Value), cs.length = cap.length → (∀ i (h : i < cap.length), R w G φ cap[i] (cs.getD i undef)) → All2 (fun x u => R w G φ x u ∧ Tail w G x u) (cap.map clr) cs := by
      intro cap
      induction cap with
      | nil =>
        intro cs hl _
        obtain rfl : cs = [] := List.eq_nil_of_length_eq_zero hl
        exact .nil
      | cons c cap ih =>
        intro cs hl hr
        cases cs with
        | nil => simp at hl
        | cons d cs =>
          have h0 := hr 0 (by simp)
          simp at h0
          exact .cons ⟨h0.clr, Tail_clr _ _ _ _⟩ (ih cs (by simpa using hl) fun i hi => by have := hr (i + 1) (by simpa using hi); simpa using this)
    refine key cap caps.toList (by simpa using hl) fun i hi => ?_
    have h1 := hr i hi
    have hi' : i < caps.size := by omega
    have : caps.toList.getD i undef = caps.getD i undef := by
      rw [List.getD_eq_getElem?_getD, List.getElem?_eq_getElem (by simpa using hi')]
      simp [Array.getD, hi']
    rw [this]
    exact h1
  have happ : ∀ {xs ys : List V} {us zs : List Value}, All2 (fun x u => R w G φ x u ∧ Tail w G x u) xs us → All2 (fun x u => R w G φ x u ∧ Tail w G x u) ys zs → All2 (fun x u => R w G φ x u ∧ Tail w G x u) (xs ++ ys) (us ++ zs) := by
    intro xs ys us zs h1 h2
    induction h1 with
    | nil => exact h2
    | cons hp _ ih => exact .cons hp ih
  have hvt : ∀ b, vtk (args.map st.ev ++ cap.map clr) (vs ++ caps.toList) b = vtk (args.map st.ev) vs b := fun b => by
    have hlen : (args.map st.ev).length = vs.length := hp.ok.length
    have h0 : vtk (cap.map clr) caps.toList b = 0 := by
      unfold vtk
      refine sum_zero fun p hp => ?_
      obtain ⟨c, d⟩ := p
      have := (List.of_mem_zip hp).1
      obtain ⟨c', _, rfl⟩ := List.mem_map.1 this
      exact tk_clr _ _ _
    unfold vtk at h0 ⊢
    rw [List.zip_append hlen, List.map_append, List.sum_append, h0]
    rfl
  have hcall := hX.2 w G φ (vs ++ caps.toList) ⟨happ hp.ok hcap, hp.reps, hp.sorted, fun b => by rw [hvt]; exact hp.cnt b, hp.ctr, hp.zero⟩
  have hen := hX.1
  unfold entersB at hen
  cases hfn : P.funcs[f]? with
  | none => rw [hfn] at hen; cases hen
  | some fn =>
    rw [hfn] at hen
    simp only [Bool.and_eq_true] at hen
    have hrun : (execOp act.eval o).run P w = .ok (.enter f (vs ++ caps.toList).toArray) w := by
      have hva : oargs.map act.eval ++ caps = (vs ++ caps.toList).toArray := by
        apply Array.toList_inj.1
        rw [hvs]; simp
      have h1 : execOp act.eval o = callFunc f (#[] ++ oargs.map act.eval ++ caps) := by
        unfold execOp; rw [hop]
        simp only [resolve, hy]
        rfl
      obtain ⟨c, hc⟩ := Option.isSome_iff_exists.1 hen.2
      have hnm : fn.name ≠ "runtime.NumGoroutine" := by simpa using hen.1
      rw [h1, Array.empty_append, hva]
      simp [callFunc, hfn, hnm, hc]
    unfold Oper.wp
    rw [hrun, Oper.upon_enter]
    refine Calls.mono hcall fun e w' he => ?_
    obtain ⟨r, u, heap', n', G', φ', rfl, hq, H⟩ := he
    have H' : HRes w G φ (args.map st.ev) vs st.heap st.ctr r heap' n' u w' G' φ' := ⟨H.rel, H.tail, H.reps, H.sorted, H.cnt, H.ctr, H.le, H.zero, H.ext, H.mono, fun b hb h0 => H.fr b hb (by rw [hvt]; exact h0)⟩
    obtain ⟨g1, g2, g3, g4⟩ := goes_heap hargs k7 h hn (d := o.dst) (by rw [hd]; exact k2) H'
    have hpost := hQ r heap' n' hq
    rw [← hd] at hpost
    exact hnext _ _ w' G' φ' hpost g1 g2 g3 g4

end
end Go.Proofs.Ythphnacnjbcpiaa.E

/- The engine, part Z: lists of operations in the order of the text, and in every order that Go leaves open. Conditions: none. -/
namespace Go.Proofs.Ythphnacnjbcpiaa.E
set_option linter.unusedVariables false
set_option linter.unusedSimpArgs false

def okOps (P : Program) (nt : Nat) (ops : Array Oper) : List Oper → List AOp → Bool
  | [], [] => true
  | o :: r, a :: q => okOp P nt ops o a && okOps P nt ops r q
  | _, _ => false

section
variable {P : Program} {w : World} {G : Nat → Nat} {φ : Nat → Option Nat} {st : St} {act : Act} {ts : Array Value} {X : Sem3}

theorem guard_ok {ops : Array Oper} {o : Oper} {a : AOp} {b : Bool} (hg : okGuard ops o.guard a.guard = true) (hw : wantedA st a.guard = some b) (h : Inv w G φ st act.tmps) : Region.wanted o (yielded ops act.tmps) = b := by
  unfold okGuard at hg
  unfold Region.wanted
  cases hog : o.guard <;> cases hag : a.guard <;> rw [hog, hag] at hg <;> first | (cases hg; done) | skip
  · rw [hag] at hw
    simp only [wantedA, Option.some.injEq] at hw
    rw [← hw]
  · rename_i p q
    obtain ⟨j, want⟩ := p
    obtain ⟨s, c⟩ := q
    simp only [Bool.and_eq_true, beq_iff_eq] at hg
    obtain ⟨rfl, hg⟩ := hg
    rw [hag] at hw
    simp only [wantedA] at hw
    split at hw <;> first | (cases hw; done) | skip
    · rename_i c hgs
      injection hw with hw; subst hw
      obtain ⟨h1, h2, _⟩ := h.env _ (get_mem hgs)
      simp only at h1 h2
      generalize hv : act.tmps.getD s undef = v at h2
      cases h2
      have : act.tmps[s]? = some (.bool c) := by
        rw [Array.getElem?_eq_getElem h1]
        simp only [Array.getD, h1, dif_pos] at hv
        rw [← hv]
        rfl
      simp only [yielded, hg, Option.bind_some, this]
      cases c <;> cases want <;> rfl
    · rename_i hgs
      injection hw with hw; subst hw
      obtain ⟨h1, h2, _⟩ := h.env _ (get_mem hgs)
      simp only at h1 h2
      generalize hv : act.tmps.getD s undef = v at h2
      cases h2
      rename_i vs hl _
      have : act.tmps[s]? = some (.tuple vs) := by
        rw [Array.getElem?_eq_getElem h1]
        simp only [Array.getD, h1, dif_pos] at hv
        rw [← hv]
        rfl
      simp only [yielded, hg, Option.bind_some, this]
      cases want <;> rfl

theorem undef_R : R w G φ (.tup []) undef := .tup _ [] #[] rfl fun i hi => absurd hi (by simp)
theorem undef_leaves : leaves (.tup []) undef = [] := rfl
theorem undef_tk (b : Nat) : tk (.tup []) undef b = 0 := by unfold tk; rw [undef_leaves]; rfl
theorem undef_Tail : Tail w G (.tup []) undef := fun p hp => by rw [undef_leaves] at hp; cases hp

/-- An operation that is left out. -/
theorem skip_ok {nt : Nat} {a : AOp} {o : Oper} (hd : o.dst = a.dst) (hdd : okDst nt a.dst = true) (h : Inv w G φ st act.tmps) (hn : act.tmps.size = nt) :
    Inv w G φ (st.app ⟨dstw a.dst (.tup []), [], 0, none⟩) (act.put o.dst undef).tmps ∧ (act.put o.dst undef).tmps.size = nt ∧ (act.put o.dst undef).defers = act.defers ∧ Goes w G φ st act.tmps w G φ (st.app ⟨dstw a.dst (.tup []), [], 0, none⟩) (act.put o.dst undef).tmps := by
  have hfin := put_fin h hn (d := o.dst) (by rw [hd]; exact hdd) undef_R undef_Tail (fun q => by rw [undef_tk]; exact h.cnt q)
  have hst : st.app ⟨dstw a.dst (.tup []), [], 0, none⟩ = ⟨sets st.env (dstw o.dst (.tup [])), st.loc, st.heap, st.ctr⟩ := by rw [hd]; simp [St.app, sets]
  rw [hst]
  refine ⟨hfin.1, hfin.2.1, hfin.2.2.1, Goes.mk (Ext.refl _ _) (fun _ _ h => h) (fun q _ hq => ⟨rfl, rfl, ?_⟩) (Nat.le_refl _)⟩
  have h5 : cnt w φ ⟨sets st.env (dstw o.dst (.tup [])), st.loc, st.heap, st.ctr⟩ (act.put o.dst undef).tmps q ≤ _ := hfin.2.2.2 q
  rw [undef_tk] at h5
  omega

theorem wpO_goes {ops : Array Oper} {o : Oper} {a : AOp} {nt : Nat} {K : St → Prop} (hk : okOp P nt ops o a = true) (hw : wpO (XS P) a K st) (h : Inv w G φ st act.tmps) (hn : act.tmps.size = nt) : OpGoes P o w G φ st act nt K := by
  unfold wpO at hw
  cases hak : a.k <;> rw [hak] at hw
  case call f v args =>
    obtain ⟨h0, Q0, h1, h2⟩ := hw
    exact goes_call hk hak h0 h1 h2 h hn
  case callH v x args =>
    simp only at hw
    cases hx : st.ev x <;> rw [hx] at hw <;> simp only at hw
    rename_i f cap
    obtain ⟨Q0, h1, h2⟩ := hw
    exact goes_callH hk hak hx h1 h2 h hn
  all_goals
    simp only at hw
    cases he : eff a st with
    | none => rw [he] at hw; exact hw.elim
    | some e => rw [he] at hw; exact goes_eff hk he h hn hw

/-- In the order of the text. -/
theorem wpL_ok {ops : Array Oper} {nt : Nat} {K : St → Prop} {Q : Exit → Act → World → Prop} : ∀ (l : List Oper) (al : List AOp), okOps P nt ops l al = true → ∀ {st : St} {act : Act} {w : World} {G : Nat → Nat} {φ : Nat → Option Nat}, wpL (XS P) al K st → Inv w G φ st act.tmps → act.tmps.size = nt →
    (∀ st' act' w' G' φ', K st' → Inv w' G' φ' st' act'.tmps → act'.tmps.size = nt → act'.defers = act.defers → Goes w G φ st act.tmps w' G' φ' st' act'.tmps → Q .normal act' w') → wpList P ops Q l act w
  | [], [], _, st, act, w, G, φ, hw, h, hn, hQ => hQ st act w G φ hw h hn rfl (Goes.refl _ _ _ _ _)
  | [], _ :: _, hk, _, _, _, _, _, _, _, _, _ => by simp [okOps] at hk
  | _ :: _, [], hk, _, _, _, _, _, _, _, _, _ => by simp [okOps] at hk
  | o :: l, a :: al, hk, st, act, w, G, φ, hw, h, hn, hQ => by
    simp only [okOps, Bool.and_eq_true] at hk
    simp only [wpL] at hw
    have hk1 := hk.1
    unfold okOp at hk1
    simp only [Bool.and_eq_true] at hk1
    obtain ⟨⟨⟨k1, k2⟩, k3⟩, k4⟩ := hk1
    have hd : o.dst = a.dst := by simpa using k1
    cases hg : wantedA st a.guard with
    | none => rw [hg] at hw; exact hw.elim
    | some b =>
      rw [hg] at hw
      simp only [W] at hw
      have hwant := guard_ok k3 hg h
      unfold wpList
      rw [hwant]
      cases b with
      | false =>
        rw [if_neg (by simp)] at hw ⊢
        obtain ⟨s1, s2, s3, s4⟩ := skip_ok hd k2 h hn
        exact wpL_ok l al hk.2 hw s1 s2 fun st' act' w' G' φ' a1 a2 a3 a4 a5 => hQ st' act' w' G' φ' a1 a2 a3 (a4.trans s3) (s4.trans a5)
      | true =>
        rw [if_pos rfl] at hw ⊢
        left
        refine wpO_goes hk.1 hw h hn _ _ fun st1 act1 w1 G1 φ1 b1 b2 b3 b4 b5 => ?_
        exact wpL_ok l al hk.2 b1 b2 b3 fun st' act' w' G' φ' a1 a2 a3 a4 a5 => hQ st' act' w' G' φ' a1 a2 a3 (a4.trans b4) (b5.trans a5)

/-! ### Every order -/
def slotsOf : List Opd → List Nat
  | [] => []
  | .t n :: r | .m n :: r => n :: slotsOf r
  | .c _ :: r => slotsOf r
def argsOf : AK → List Opd
  | .p _ args | .a _ args | .call _ _ args | .h _ args => args
  | .callH _ x args => x :: args
  | .extr _ _ => []
  | .box _ x => [x]
  | .loadL _ p _ _ => [p]
  | .storeL _ _ p x => [p, x]
def rdE (a : AOp) : List Nat := (match a.guard with | some (s, _) => [s] | none => []) ++ ((match a.k with | .extr s _ => [s] | _ => []) ++ slotsOf (argsOf a.k))
def wrE (a : AOp) : List Nat := (match a.dst with | some d => [d] | none => []) ++ ((match a.k with | .extr s _ => [s] | _ => []) ++ mslots (argsOf a.k))
def rdL (a : AOp) : List Nat := match a.k with | .loadL s _ _ _ | .storeL s _ _ _ => [s] | _ => []
def wrL (a : AOp) : List Nat := match a.k with | .loadL s _ _ true | .storeL s _ _ _ | .box s _ => [s] | _ => []
def rdHK : HK → Bool
  | .loadH _ | .look .. | .lenM => true
  | _ => false
def ctA (a : AOp) : Bool := match a.k with | .box .. | .callH .. => true | .h f _ => !rdHK f | _ => false
def rhA (a : AOp) : Bool := match a.k with | .h f _ => rdHK f | _ => false
theorem hf_rd {f : HK} (hr : rdHK f = true) (xs : List V) (h : Heap) (n n' : Nat) : hf f xs h n = hf f xs h n' := by cases f <;> first | rfl | (cases hr)
theorem hf_rd2 {f : HK} (hr : rdHK f = true) {xs : List V} {h : Heap} {n : Nat} {q : V × Heap × Nat} (hq : hf f xs h n = some q) : q.2.1 = h ∧ q.2.2 = 0 := by
  cases f <;> first | (cases hr; done) | skip
  case loadH =>
    simp only [hf] at hq
    split at hq <;> first | (cases hq; done) | skip
    split at hq <;> first | (cases hq; done) | skip
    split at hq <;> first | (cases hq; done) | skip
    obtain ⟨_, _, hq⟩ := Option.bind_eq_some_iff.1 hq
    obtain ⟨_, _, rfl⟩ := Option.map_eq_some_iff.1 hq
    exact ⟨rfl, rfl⟩
  case look =>
    simp only [hf] at hq
    split at hq <;> first | (cases hq; done) | skip
    · injection hq with hq; subst hq; exact ⟨rfl, rfl⟩
    · split at hq <;> first | (cases hq; done) | skip
      obtain ⟨_, _, rfl⟩ := Option.map_eq_some_iff.1 hq
      exact ⟨rfl, rfl⟩
  case lenM =>
    simp only [hf] at hq
    split at hq <;> first | (cases hq; done) | skip
    · injection hq with hq; subst hq; exact ⟨rfl, rfl⟩
    · split at hq <;> first | (cases hq; done) | skip
      injection hq with hq; subst hq; exact ⟨rfl, rfl⟩
def disj (x y : List Nat) : Bool := x.all fun k => !y.contains k
def indep (a b : AOp) : Bool := disj (wrE a) (rdE b) && disj (wrE a) (wrE b) && disj (wrE b) (rdE a) && disj (wrL a) (rdL b) && disj (wrL a) (wrL b) && disj (wrL b) (rdL a) && !(ctA a && (ctA b || rhA b)) && !(rhA a && ctA b)

theorem disj_spec {x y : List Nat} (h : disj x y = true) {k : Nat} (hx : k ∈ x) : k ∉ y := by
  unfold disj at h
  have := List.all_eq_true.1 h k hx
  simpa using this

/-- One operation, wanted or left out. -/
def stepR (X : Sem3) (a : AOp) (st : St) (e : Eff) : Prop := (wantedA st a.guard = some true ∧ does X a st e) ∨ (wantedA st a.guard = some false ∧ e = ⟨dstw a.dst (.tup []), [], 0, none⟩)

theorem evs_congr {st st' : St} : ∀ {args : List Opd}, (∀ n ∈ slotsOf args, get st'.env n = get st.env n) → args.map st'.ev = args.map st.ev ∧ st'.moves args = st.moves args
  | [], _ => ⟨rfl, rfl⟩
  | .t n :: r, h => by
    obtain ⟨h1, h2⟩ := evs_congr (args := r) fun k hk => h k (by simp [slotsOf, hk])
    refine ⟨?_, by simp only [St.moves]; exact h2⟩
    simp only [List.map_cons, h1, St.ev, h n (by simp [slotsOf])]
  | .m n :: r, h => by
    obtain ⟨h1, h2⟩ := evs_congr (args := r) fun k hk => h k (by simp [slotsOf, hk])
    refine ⟨?_, by simp only [St.moves, h2, h n (by simp [slotsOf])]⟩
    simp only [List.map_cons, h1, St.ev, h n (by simp [slotsOf])]
  | .c y :: r, h => by
    obtain ⟨h1, h2⟩ := evs_congr (args := r) fun k hk => h k (by simp [slotsOf, hk])
    refine ⟨?_, by simp only [St.moves]; exact h2⟩
    simp only [List.map_cons, h1, St.ev]

theorem stepR_congr {a : AOp} {st st' : St} {e : Eff} (hs : stepR X a st e) (h1 : ∀ n ∈ rdE a, get st'.env n = get st.env n) (h2 : ∀ n ∈ rdL a, get st'.loc n = get st.loc n) (h3 : ctA a = true → st'.ctr = st.ctr) (h4 : (ctA a || rhA a) = true → st'.heap = st.heap) : stepR X a st' e := by
  have hg : wantedA st' a.guard = wantedA st a.guard := by
    cases hag : a.guard with
    | none => rfl
    | some p =>
      obtain ⟨s, b⟩ := p
      simp only [wantedA, h1 s (by simp [rdE, hag])]
  unfold stepR at hs ⊢
  rw [hg]
  refine hs.imp (fun hs => ⟨hs.1, ?_⟩) id
  have hd := hs.2
  obtain ⟨v1, v2⟩ := evs_congr (st := st) (st' := st') (args := argsOf a.k) fun n hn => h1 n (by simp [rdE, hn])
  unfold does at hd ⊢
  cases hk : a.k <;> rw [hk] at hd v1 v2 <;> simp only at hd ⊢ <;> simp only [argsOf] at v1 v2
  case call f v args => rw [v1, v2]; exact hd
  case callH v x args =>
    have e1 : st'.ev x = st.ev x := by simpa using congrArg List.head? v1
    have e2 : args.map st'.ev = args.map st.ev := by simpa using congrArg List.tail v1
    have e3 : st'.moves args = st.moves args := (evs_congr (st := st) (st' := st') (args := args) fun n hn => h1 n (by
      simp only [rdE, hk, argsOf]
      refine List.mem_append_right _ (List.mem_append_right _ ?_)
      cases x <;> simp [slotsOf, hn])).2
    rw [e1, e2, e3, h3 (by simp [ctA, hk]), h4 (by simp [ctA, hk])]
    exact hd
  all_goals
    unfold eff at hd ⊢
    rw [hk] at hd ⊢
    simp only at hd ⊢
  case p f args => rw [v1, v2]; exact hd
  case a f args => rw [v1, v2]; exact hd
  case h f args =>
    rw [v1, v2, h4 (by simp only [ctA, rhA, hk]; cases rdHK f <;> rfl)]
    cases hr : rdHK f with
    | true => rw [hf_rd hr _ _ st'.ctr st.ctr]; exact hd
    | false => rw [h3 (by simp [ctA, hk, hr])]; exact hd
  case extr s i => rw [h1 s (by simp [rdE, hk])]; exact hd
  case box s x =>
    simp only [List.map_cons, List.map_nil, List.cons.injEq, and_true] at v1
    rw [v1, v2, h3 (by simp [ctA, hk])]
    exact hd
  case loadL s p n tk =>
    simp only [List.map_cons, List.map_nil, List.cons.injEq, and_true] at v1
    rw [v1, h2 s (by simp [rdL, hk])]
    exact hd
  case storeL s n p x =>
    simp only [List.map_cons, List.map_nil, List.cons.injEq, and_true] at v1
    have v3 : st'.moves [x] = st.moves [x] := (evs_congr (st := st) (st' := st') (args := [x]) fun n hn => h1 n (by
      simp only [rdE, hk, argsOf]
      refine List.mem_append_right _ (List.mem_append_right _ ?_)
      cases p <;> cases x <;> simp [slotsOf] at hn ⊢ <;> simp [hn])).2
    rw [v1.1, v1.2, v3, h2 s (by simp [rdL, hk])]
    exact hd

theorem moves_keys' {st : St} {p : Nat × V} : ∀ (args : List Opd), p ∈ st.moves args → p.1 ∈ mslots args
  | [], h => by simp [St.moves] at h
  | .t n :: r, h => moves_keys' r h
  | .c y :: r, h => moves_keys' r h
  | .m n :: r, h => by
    simp only [St.moves, List.mem_append] at h
    rcases h with h | h
    · cases hg : get st.env n with
      | none => rw [hg] at h; simp at h
      | some x => rw [hg] at h; simp at h; subst h; simp [mslots]
    · simp [mslots, moves_keys' r h]
theorem moves_keys {st : St} {args : List Opd} {p : Nat × V} (h : p ∈ st.moves args) : p.1 ∈ mslots args := moves_keys' args h
theorem dstw_keys {d : Option Nat} {x : V} {p : Nat × V} (h : p ∈ dstw d x) : d = some p.1 := by
  cases d with
  | none => simp [dstw] at h
  | some d => simp [dstw] at h; subst h; rfl

theorem stepR_writes {a : AOp} {st : St} {e : Eff} (hs : stepR X a st e) : (∀ p ∈ e.e, p.1 ∈ wrE a) ∧ (∀ p ∈ e.l, p.1 ∈ wrL a) ∧ (e.c ≠ 0 → ctA a = true) ∧ (e.h ≠ none → ctA a = true ∨ (rhA a = true ∧ e.h = some st.heap)) := by
  have hdst : ∀ {x : V} {p : Nat × V}, p ∈ dstw a.dst x → p.1 ∈ wrE a := fun {x p} h => by
    have := dstw_keys h
    simp [wrE, this]
  have hmv : ∀ {args : List Opd} {p : Nat × V}, args = argsOf a.k → p ∈ st.moves args → p.1 ∈ wrE a := fun {args p} he h => by
    subst he
    simp only [wrE]
    exact List.mem_append_right _ (List.mem_append_right _ (moves_keys h))
  rcases hs with ⟨_, hd⟩ | ⟨_, rfl⟩
  · unfold does at hd
    cases hk : a.k <;> rw [hk] at hd <;> simp only at hd
    case call f v args =>
      obtain ⟨_, r, Q0, _, _, _, rfl⟩ := hd
      refine ⟨fun p hp => ?_, by simp, by simp, by simp⟩
      rcases List.mem_append.1 hp with hp | hp
      · exact hmv (by rw [hk]; rfl) hp
      · exact hdst hp
    case callH v x args =>
      cases hx : st.ev x <;> rw [hx] at hd <;> simp only at hd
      obtain ⟨r, hp0, n, Q0, _, _, rfl⟩ := hd
      refine ⟨fun p hp => ?_, by simp, fun _ => by simp [ctA, hk], fun _ => .inl (by simp [ctA, hk])⟩
      rcases List.mem_append.1 hp with hp | hp
      · have := moves_keys hp
        simp only [wrE, hk, argsOf]
        refine List.mem_append_right _ (List.mem_append_right _ ?_)
        cases x <;> simp [mslots, this]
      · exact hdst hp
    all_goals
      unfold eff at hd
      rw [hk] at hd
      simp only at hd
    case h f args =>
      obtain ⟨y, hy, rfl⟩ := Option.map_eq_some_iff.1 hd
      refine ⟨fun p hp => ?_, by simp, fun hc => ?_, fun _ => ?_⟩
      rotate_left
      · cases hr : rdHK f with
        | true => exact absurd (hf_rd2 hr hy).2 hc
        | false => simp [ctA, hk, hr]
      · cases hr : rdHK f with
        | true => exact .inr ⟨by simp [rhA, hk, hr], by rw [(hf_rd2 hr hy).1]⟩
        | false => exact .inl (by simp [ctA, hk, hr])
      rcases List.mem_append.1 hp with hp | hp
      · exact hmv (by rw [hk]; rfl) hp
      · exact hdst hp
    case p f args =>
      obtain ⟨y, _, rfl⟩ := Option.map_eq_some_iff.1 hd
      refine ⟨fun p hp => ?_, by simp, by simp, by simp⟩
      rcases List.mem_append.1 hp with hp | hp
      · exact hmv (by rw [hk]; rfl) hp
      · exact hdst hp
    case a f args =>
      obtain ⟨y, _, rfl⟩ := Option.map_eq_some_iff.1 hd
      refine ⟨fun p hp => ?_, by simp, by simp, by simp⟩
      rcases List.mem_append.1 hp with hp | hp
      · exact hmv (by rw [hk]; rfl) hp
      · exact hdst hp
    case extr s i =>
      split at hd <;> first | (cases hd; done) | skip
      obtain ⟨x, _, hd⟩ := Option.bind_eq_some_iff.1 hd
      have : ∃ y z, e = ⟨(s, y) :: dstw a.dst z, [], 0, none⟩ := by cases x <;> first | (simp at hd; exact ⟨_, _, hd.symm⟩) | (simp at hd)
      obtain ⟨y, z, rfl⟩ := this
      refine ⟨fun p hp => ?_, by simp, by simp, by simp⟩
      rcases List.mem_cons.1 hp with rfl | hp
      · simp [wrE, hk]
      · exact hdst hp
    case box s x =>
      split at hd <;> first | (cases hd; done) | skip
      injection hd with hd; subst hd
      refine ⟨fun p hp => ?_, fun p hp => ?_, fun _ => by simp [ctA, hk], fun _ => by simp [ctA, hk]⟩
      · rcases List.mem_append.1 hp with hp | hp
        · exact hmv (by rw [hk]; rfl) hp
        · exact hdst hp
      · simp at hp; subst hp; simp [wrL, hk]
    case loadL s p n tk =>
      split at hd <;> first | (cases hd; done) | skip
      split at hd <;> first | (cases hd; done) | skip
      cases tk <;> cases n <;> simp only at hd <;> first | (cases hd; done) | skip
      · obtain ⟨y, _, rfl⟩ := Option.map_eq_some_iff.1 hd
        exact ⟨fun p hp => hdst hp, by simp, by simp, by simp⟩
      · obtain ⟨y, _, rfl⟩ := Option.map_eq_some_iff.1 hd
        exact ⟨fun p hp => hdst hp, by simp, by simp, by simp⟩
      · obtain ⟨y, _, hd⟩ := Option.bind_eq_some_iff.1 hd
        split at hd <;> first | (cases hd; done) | skip
        injection hd with hd; subst hd
        refine ⟨fun p hp => hdst hp, fun p hp => ?_, by simp, by simp⟩
        simp at hp; subst hp; simp [wrL, hk]
    case storeL s n p x =>
      split at hd <;> first | (cases hd; done) | skip
      split at hd <;> first | (cases hd; done) | skip
      injection hd with hd; subst hd
      refine ⟨fun q hp => ?_, fun q hp => ?_, by simp, by simp⟩
      · rcases List.mem_append.1 hp with hp | hp
        · have := moves_keys hp
          simp only [wrE, hk, argsOf]
          refine List.mem_append_right _ (List.mem_append_right _ ?_)
          cases p <;> cases x <;> simp [mslots] at this ⊢ <;> simp [this]
        · exact hdst hp
      · simp at hp; subst hp; simp [wrL, hk]
  · exact ⟨fun p hp => hdst hp, by simp, by simp, by simp⟩

theorem get_sets_ne {α : Type} : ∀ (l : List (Nat × α)) (r : List (Nat × α)) {j : Nat}, (∀ p ∈ l, p.1 ≠ j) → get (sets r l) j = get r j
  | [], r, j, _ => rfl
  | p :: l, r, j, h => by
    show get (sets (set r p.1 p.2) l) j = _
    rw [get_sets_ne l _ fun q hq => h q (by simp [hq]), get_set_ne _ _ (fun e => h p (by simp) e.symm)]
theorem set_comm {α : Type} : ∀ (l : List (Nat × α)) {i j : Nat} (x y : α), i ≠ j → set (set l i x) j y = set (set l j y) i x
  | [], i, j, x, y, h => by
    simp only [set]
    by_cases c : j < i
    · rw [if_pos c, if_neg (by omega), if_neg h]
    · rw [if_neg c, if_neg (fun e => h e.symm), if_pos (by omega)]
  | (a, z) :: r, i, j, x, y, h => by
    have ih := set_comm r x y h
    simp only [set]
    by_cases i1 : i < a
    · by_cases j1 : j < a
      · rw [if_pos i1, if_pos j1]
        simp only [set]
        by_cases c : j < i
        · rw [if_pos c, if_neg (by omega), if_neg h, if_pos i1]
        · rw [if_neg c, if_neg (fun e => h e.symm), if_pos j1, if_pos (by omega)]
      · by_cases j2 : j = a
        · subst j2
          rw [if_pos i1, if_neg j1, if_pos rfl]
          simp only [set]
          rw [if_neg (by omega), if_neg (by omega), if_neg j1, if_pos trivial, if_pos i1]
        · rw [if_pos i1, if_neg j1, if_neg j2]
          simp only [set]
          rw [if_neg (by omega), if_neg (by omega), if_neg j1, if_neg j2, if_pos i1]
    · by_cases i2 : i = a
      · subst i2
        rw [if_neg i1, if_pos rfl]
        by_cases j1 : j < i
        · rw [if_pos j1]
          simp only [set]
          rw [if_pos j1, if_neg (by omega), if_neg h, if_neg i1, if_pos trivial]
        · have j2 : j ≠ i := fun e => h e.symm
          rw [if_neg j1, if_neg j2]
          simp only [set]
          rw [if_neg j1, if_neg j2, if_neg i1, if_pos trivial]
      · rw [if_neg i1, if_neg i2]
        by_cases j1 : j < a
        · rw [if_pos j1]
          simp only [set]
          rw [if_pos j1, if_neg (by omega), if_neg h, if_neg i1, if_neg i2]
        · by_cases j2 : j = a
          · subst j2
            rw [if_neg j1, if_pos rfl]
            simp only [set]
            rw [if_neg j1, if_pos trivial, if_neg i1, if_neg i2]
          · rw [if_neg j1, if_neg j2]
            simp only [set]
            rw [if_neg j1, if_neg j2, if_neg i1, if_neg i2, ih]
theorem sets_set_comm {α : Type} : ∀ (l : List (Nat × α)) (r : List (Nat × α)) (i : Nat) (x : α), (∀ p ∈ l, p.1 ≠ i) → sets (set r i x) l = set (sets r l) i x
  | [], r, i, x, _ => rfl
  | p :: l, r, i, x, h => by
    show sets (set (set r i x) p.1 p.2) l = set (sets (set r p.1 p.2) l) i x
    rw [set_comm r x p.2 (fun e => h p (by simp) e.symm), sets_set_comm l _ i x fun q hq => h q (by simp [hq])]
theorem sets_comm {α : Type} : ∀ (l l' : List (Nat × α)) (r : List (Nat × α)), (∀ p ∈ l, ∀ q ∈ l', p.1 ≠ q.1) → sets (sets r l) l' = sets (sets r l') l
  | [], l', r, _ => rfl
  | p :: l, l', r, h => by
    show sets (sets (set r p.1 p.2) l) l' = sets (set (sets r l') p.1 p.2) l
    rw [sets_comm l l' _ (fun a ha b hb => h a (by simp [ha]) b hb), sets_set_comm l' r p.1 p.2 fun q hq => fun e => h p (by simp) q hq e.symm]

/-- Two operations side by side, in either order. -/
theorem swap {a b : AOp} {st : St} {ea eb : Eff} (ha : stepR X a st ea) (hb : stepR X b (st.app ea) eb) (hi : indep a b = true) : stepR X b st eb ∧ stepR X a (st.app eb) ea ∧ (st.app ea).app eb = (st.app eb).app ea := by
  unfold indep at hi
  simp only [Bool.and_eq_true, Bool.not_eq_true'] at hi
  obtain ⟨⟨⟨⟨⟨⟨⟨i1, i2⟩, i3⟩, i4⟩, i5⟩, i6⟩, i7⟩, i8⟩ := hi
  obtain ⟨wa1, wa2, wa3, wa4⟩ := stepR_writes ha
  obtain ⟨wb1, wb2, wb3, wb4⟩ := stepR_writes hb
  have na : (ctA b || rhA b) = true → (st.app ea).heap = st.heap := fun hc => by
    cases e : ea.h with
    | none => simp [St.app, e]
    | some x =>
      rcases wa4 (by rw [e]; simp) with hh | ⟨_, hh⟩
      · rw [hh, hc] at i7; cases i7
      · simp [St.app, hh]
  have nb : (ctA a || rhA a) = true → (st.app eb).heap = st.heap := fun hc => by
    cases e : eb.h with
    | none => simp [St.app, e]
    | some x =>
      rcases wb4 (by rw [e]; simp) with hh | ⟨hr, hh⟩
      · exfalso
        cases h1 : ctA a <;> cases h2 : rhA a <;> simp [h1, h2, hh] at hc i7 i8
      · simp only [St.app, hh, Option.getD_some]
        exact na (by rw [hr]; simp)
  have hb' : stepR X b st eb := stepR_congr hb (fun n hn => (get_sets_ne ea.e st.env fun p hp e => disj_spec i1 (wa1 p hp) (e ▸ hn)).symm) (fun n hn => (get_sets_ne ea.l st.loc fun p hp e => disj_spec i4 (wa2 p hp) (e ▸ hn)).symm) (fun hc => by
    rcases Nat.eq_zero_or_pos ea.c with e | e
    · simp [St.app, e]
    · have := wa3 (by omega); rw [this, hc] at i7; cases i7) (fun hc => (na hc).symm)
  have ha' : stepR X a (st.app eb) ea := stepR_congr ha (fun n hn => get_sets_ne eb.e st.env fun p hp e => disj_spec i3 (wb1 p hp) (e ▸ hn)) (fun n hn => get_sets_ne eb.l st.loc fun p hp e => disj_spec i6 (wb2 p hp) (e ▸ hn)) (fun hc => by
    rcases Nat.eq_zero_or_pos eb.c with e | e
    · simp [St.app, e]
    · have := wb3 (by omega); rw [this, hc] at i7; cases i7) nb
  refine ⟨hb', ha', ?_⟩
  simp only [St.app, St.mk.injEq, true_and]
  refine ⟨sets_comm _ _ _ fun p hp q hq e => disj_spec i2 (wa1 p hp) (e ▸ wb1 q hq), sets_comm _ _ _ fun p hp q hq e => disj_spec i5 (wa2 p hp) (e ▸ wb2 q hq), ?_, by omega⟩
  cases e1 : ea.h with
  | none => rfl
  | some x =>
    cases e2 : eb.h with
    | none => rfl
    | some y =>
      simp only [Option.getD_some]
      rcases wa4 (by rw [e1]; simp) with hh | ⟨hr, hh⟩
      · exfalso
        rcases wb4 (by rw [e2]; simp) with h2 | ⟨h2, _⟩ <;> simp [hh, h2] at i7
      · rcases wb4 (by rw [e2]; simp) with h2 | ⟨h2, h3⟩
        · simp [hr, h2] at i8
        · rw [e1] at hh
          rw [e2] at h3
          injection hh with hh; injection h3 with h3
          rw [hh, h3]
          exact na (by rw [h2]; simp)

inductive Chain (X : Sem3) : List AOp → St → St → Prop where
  | nil (st : St) : Chain X [] st st
  | cons {a : AOp} {r : List AOp} {st st' : St} {e : Eff} (h : stepR X a st e) (t : Chain X r (st.app e) st') : Chain X (a :: r) st st'

theorem chain_front : ∀ (xs : List AOp) {b : AOp} {ys : List AOp} {st st' : St}, Chain X (xs ++ b :: ys) st st' → (∀ a ∈ xs, indep a b = true) → ∃ e, stepR X b st e ∧ Chain X (xs ++ ys) (st.app e) st'
  | [], b, ys, st, st', h, _ => by cases h with | cons h t => exact ⟨_, h, t⟩
  | a :: xs, b, ys, st, st', h, hi => by
    cases h with
    | cons ha t =>
      obtain ⟨eb, hb, t'⟩ := chain_front xs t fun c hc => hi c (by simp [hc])
      obtain ⟨h1, h2, h3⟩ := swap ha hb (hi a (by simp))
      exact ⟨eb, h1, .cons h2 (by rw [← h3]; exact t')⟩

theorem chain_of_wpLD : ∀ {al : List AOp} {K : St → Prop} {st : St}, wpLD X al K st → ∃ st', Chain X al st st' ∧ K st'
  | [], K, st, h => ⟨st, .nil st, h⟩
  | a :: al, K, st, h => by
    simp only [wpLD] at h
    cases hg : wantedA st a.guard with
    | none => rw [hg] at h; exact h.elim
    | some b =>
      rw [hg] at h
      simp only [W] at h
      cases b with
      | false =>
        rw [if_neg (by simp)] at h
        obtain ⟨st', h1, h2⟩ := chain_of_wpLD h
        exact ⟨st', .cons (.inr ⟨hg, rfl⟩) h1, h2⟩
      | true =>
        rw [if_pos rfl] at h
        unfold wpOD at h
        have fin : ∀ e, does X a st e → wpLD X al K (st.app e) → ∃ st', Chain X (a :: al) st st' ∧ K st' := fun e hd hn => by
          obtain ⟨st', h1, h2⟩ := chain_of_wpLD hn
          exact ⟨st', .cons (.inl ⟨hg, hd⟩) h1, h2⟩
        cases hk : a.k <;> rw [hk] at h <;> simp only at h
        case call f v args =>
          obtain ⟨h0, r, Q0, h1, h2, h3, h4⟩ := h
          exact fin _ (by unfold does; rw [hk]; exact ⟨h0, r, Q0, h1, h2, h3, rfl⟩) h4
        case callH v x args =>
          cases hx : st.ev x <;> rw [hx] at h <;> simp only at h
          obtain ⟨r, hp, n, Q0, h1, h2, h3⟩ := h
          exact fin _ (by unfold does; rw [hk]; simp only [hx]; exact ⟨r, hp, n, Q0, h1, h2, rfl⟩) h3
        all_goals
          cases he : eff a st with
          | none => rw [he] at h; exact h.elim
          | some e =>
            rw [he] at h
            exact fin e (by unfold does; rw [hk]; exact he) h

end
end Go.Proofs.Ythphnacnjbcpiaa.E

/- The engine, part AA: a region whose order Go leaves open. Conditions: none. -/
namespace Go.Proofs.Ythphnacnjbcpiaa.E
set_option linter.unusedVariables false
set_option linter.unusedSimpArgs false

/-- What must come before, directly and through others. -/
def stepM (acc : List Nat) (o : Oper) : Nat := o.after.toList.foldl (fun s e => if Region.binds .any e = true then s ||| (2 ^ e.on ||| acc.getD e.on 0) else s) 0
def masks : List Oper → List Nat → List Nat
  | [], acc => acc
  | o :: r, acc => masks r (acc ++ [stepM acc o])

theorem foldl_test (acc : List Nat) (j : Nat) : ∀ (l : List Edge) (s : Nat), (l.foldl (fun s e => if Region.binds .any e = true then s ||| (2 ^ e.on ||| acc.getD e.on 0) else s) s).testBit j = true →
    s.testBit j = true ∨ ∃ e ∈ l, Region.binds .any e = true ∧ (e.on = j ∨ (acc.getD e.on 0).testBit j = true)
  | [], s, h => .inl h
  | e :: l, s, h => by
    rw [List.foldl_cons] at h
    rcases foldl_test acc j l _ h with h | ⟨e', he', h⟩
    · split at h
      · rename_i hb
        rw [Nat.testBit_or, Bool.or_eq_true, Nat.testBit_or, Bool.or_eq_true] at h
        rcases h with h | h | h
        · exact .inl h
        · refine .inr ⟨e, by simp, hb, .inl ?_⟩
          rw [Nat.testBit_two_pow] at h
          simpa using h
        · exact .inr ⟨e, by simp, hb, .inr h⟩
      · exact .inl h
    · exact .inr ⟨e', by simp [he'], h⟩

theorem masks_prefix : ∀ (l : List Oper) (acc : List Nat), acc <+: masks l acc
  | [], acc => List.prefix_refl _
  | o :: r, acc => List.IsPrefix.trans (List.prefix_append _ _) (masks_prefix r (acc ++ [stepM acc o]))
theorem masks_get : ∀ (l : List Oper) (acc : List Nat) (k : Nat) (o : Oper), l[k]? = some o → ∃ pre : List Nat, pre.length = acc.length + k ∧ pre <+: masks l acc ∧ (masks l acc)[acc.length + k]? = some (stepM pre o)
  | [], acc, k, o, h => by simp at h
  | p :: r, acc, 0, o, h => by
    simp at h
    subst h
    refine ⟨acc, rfl, masks_prefix _ _, ?_⟩
    have := masks_prefix r (acc ++ [stepM acc p])
    obtain ⟨t, ht⟩ := this
    simp only [masks]
    rw [← ht]
    simp
  | p :: r, acc, k + 1, o, h => by
    obtain ⟨pre, h1, h2, h3⟩ := masks_get r (acc ++ [stepM acc p]) k o (by simpa using h)
    refine ⟨pre, by rw [h1]; simp; omega, h2, ?_⟩
    simp only [masks]
    rw [← h3]
    congr 1
    simp; omega

section
variable {P : Program} {X : Sem3}

/-- What must come before is listed, wherever an operation may come next. -/
theorem mask_listed {ops : Array Oper} {S : Nat → Prop} (hback : ∀ (i : Nat) (o : Oper), ops[i]? = some o → ∀ e ∈ o.after, Region.binds .any e = true → e.on < i) (hclosed : ∀ (i : Nat) (o : Oper), ops[i]? = some o → S i → ∀ e ∈ o.after, Region.binds .any e = true → S e.on) :
    ∀ (i : Nat) (o : Oper), ops[i]? = some o → (∀ e ∈ o.after, Region.binds .any e = true → S e.on) → ∀ j, ((masks ops.toList []).getD i 0).testBit j = true → S j := by
  intro i
  induction i using Nat.strongRecOn with
  | _ i ih =>
    intro o ho hS j hj
    obtain ⟨pre, h1, h2, h3⟩ := masks_get ops.toList [] i o (by rw [Array.getElem?_toList]; exact ho)
    simp only [List.length_nil, Nat.zero_add] at h1 h3
    rw [List.getD_eq_getElem?_getD, h3, Option.getD_some] at hj
    rcases foldl_test pre j _ 0 hj with h | ⟨e, he, hb, h⟩
    · simp at h
    · have he' : e ∈ o.after := by simpa using he
      have hlt := hback i o ho e he' hb
      rcases h with rfl | h
      · exact hS e he' hb
      · obtain ⟨o', ho'⟩ : ∃ o', ops[e.on]? = some o' := by
          have : i < ops.size := (Array.getElem?_eq_some_iff.1 ho).1
          exact ⟨ops[e.on], Array.getElem?_eq_getElem (by omega)⟩
        refine ih e.on hlt o' ho' (hclosed _ o' ho' (hS e he' hb)) j ?_
        obtain ⟨t, ht⟩ := h2
        rw [← ht, List.getD_eq_getElem?_getD, List.getElem?_append_left (by omega), ← List.getD_eq_getElem?_getD]
        exact h

def backB (ops : Array Oper) : Bool := (List.range ops.size).all fun i => match ops[i]? with | some o => o.after.all fun e => !Region.binds .any e || decide (e.on < i) | none => true
def junkOp : AOp := ⟨none, none, .p .mv []⟩
def pairsB (M : List Nat) (al : List AOp) : Bool := (List.range al.length).all fun i => (List.range i).all fun j => (M.getD i 0).testBit j || indep (al.getD j junkOp) (al.getD i junkOp)
def okDraw (ops : Array Oper) (al : List AOp) : Bool := backB ops && pairsB (masks ops.toList []) al

theorem okOps_get {nt : Nat} {ops : Array Oper} : ∀ (l : List Oper) (al : List AOp), okOps P nt ops l al = true → l.length = al.length ∧ ∀ (i : Nat) (o : Oper), l[i]? = some o → okOp P nt ops o (al.getD i junkOp) = true
  | [], [], _ => ⟨rfl, fun i o h => by simp at h⟩
  | [], _ :: _, h => by simp [okOps] at h
  | _ :: _, [], h => by simp [okOps] at h
  | o :: l, a :: al, h => by
    simp only [okOps, Bool.and_eq_true] at h
    obtain ⟨h1, h2⟩ := okOps_get l al h.2
    refine ⟨by simp [h1], fun i o' ho => ?_⟩
    cases i with
    | zero => simp at ho; subst ho; simpa using h.1
    | succ i => simpa using h2 i o' (by simpa using ho)

/-- One step in the machine. -/
theorem stepR_goes {w : World} {G : Nat → Nat} {φ : Nat → Option Nat} {st : St} {act : Act} {ops : Array Oper} {o : Oper} {a : AOp} {nt i : Nat} {e : Eff} {next : Act → World → Prop} {Q : Exit → Act → World → Prop} (hi : ops[i]? = some o) (hk : okOp P nt ops o a = true) (hs : stepR (XS P) a st e) (h : Inv w G φ st act.tmps) (hn : act.tmps.size = nt)
    (hnext : ∀ act' w' G' φ', Inv w' G' φ' (st.app e) act'.tmps → act'.tmps.size = nt → act'.defers = act.defers → Goes w G φ st act.tmps w' G' φ' (st.app e) act'.tmps → next act' w') : wpOp P ops Q i next act w := by
  have hk0 := hk
  unfold okOp at hk0
  simp only [Bool.and_eq_true] at hk0
  obtain ⟨⟨⟨k1, k2⟩, k3⟩, k4⟩ := hk0
  have hd : o.dst = a.dst := by simpa using k1
  unfold wpOp
  rw [hi]
  simp only
  rcases hs with ⟨hg, hd'⟩ | ⟨hg, rfl⟩
  · rw [guard_ok k3 hg h, if_pos rfl]
    left
    have : OpGoes P o w G φ st act nt (fun st' => st' = st.app e) := by
      unfold does at hd'
      cases hak : a.k <;> rw [hak] at hd' <;> simp only at hd'
      case call f v args =>
        obtain ⟨h0, r, Q0, q1, q2, q3, rfl⟩ := hd'
        exact goes_call hk hak h0 q1 (fun r' hp n hq => by have := q2 r' hp n hq; subst this; exact ⟨q3, rfl⟩) h hn
      case callH v x args =>
        cases hx : st.ev x <;> rw [hx] at hd' <;> simp only at hd'
        obtain ⟨r, hp, n, Q0, q1, q2, rfl⟩ := hd'
        exact goes_callH hk hak hx q1 (fun r' hp' n' hq => by obtain ⟨rfl, rfl, rfl⟩ := q2 r' hp' n' hq; rfl) h hn
      all_goals exact goes_eff hk hd' h hn rfl
    exact this _ _ fun st' act' w' G' φ' hp b1 b2 b3 b4 => by subst hp; exact hnext act' w' G' φ' b1 b2 b3 b4
  · rw [guard_ok k3 hg h, if_neg (by simp)]
    obtain ⟨s1, s2, s3, s4⟩ := skip_ok hd k2 h hn
    exact hnext _ _ _ _ s1 s2 s3 s4

theorem draw_ok {ops : Array Oper} {al : List AOp} {nt : Nat} {K : St → Prop} {Q : Exit → Act → World → Prop} (hops : okOps P nt ops ops.toList al = true) (hdr : okDraw ops al = true) {stF : St} (hK : K stF) :
    ∀ (fuel : Nat) (rem : List Nat) (listed : Array Bool) {st : St} {act : Act} {w : World} {G : Nat → Nat} {φ : Nat → Option Nat}, rem.length = fuel → rem.Pairwise (· < ·) → (∀ i ∈ rem, i < ops.size) → listed.size = ops.size → (∀ i, i < ops.size → (listed.getD i false = true ↔ i ∉ rem)) →
      (∀ (i : Nat) (o : Oper), ops[i]? = some o → i ∉ rem → ∀ e ∈ o.after, Region.binds .any e = true → e.on ∉ rem) → Chain (XS P) (rem.map fun i => al.getD i junkOp) st stF → Inv w G φ st act.tmps → act.tmps.size = nt →
      (∀ act' w' G' φ', Inv w' G' φ' stF act'.tmps → act'.tmps.size = nt → act'.defers = act.defers → Goes w G φ st act.tmps w' G' φ' stF act'.tmps → Q .normal act' w') → wpAny P .any ops Q fuel listed act w := by
  obtain ⟨hlen, hget⟩ := okOps_get _ _ hops
  unfold okDraw at hdr
  rw [Bool.and_eq_true] at hdr
  obtain ⟨hback, hpairs⟩ := hdr
  have hb : ∀ (i : Nat) (o : Oper), ops[i]? = some o → ∀ e ∈ o.after, Region.binds .any e = true → e.on < i := fun i o ho e he hbd => by
    have hi : i < ops.size := (Array.getElem?_eq_some_iff.1 ho).1
    have := List.all_eq_true.1 hback i (List.mem_range.2 hi)
    rw [ho] at this
    simp only [Array.all_eq_true_iff_forall_mem] at this
    have := this e he
    simpa [hbd] using this
  intro fuel
  induction fuel with
  | zero =>
    intro rem listed st act w G φ hl hp hlt hsz hls hcl hch h hn hQ
    obtain rfl : rem = [] := List.eq_nil_of_length_eq_zero hl
    cases hch
    refine ⟨?_, hQ act w G φ h hn rfl (Goes.refl _ _ _ _ _)⟩
    apply List.eq_nil_iff_forall_not_mem.2
    intro i hi
    obtain ⟨h0, o, ho, _⟩ := mem_ready.1 hi
    have hi' : i < ops.size := (Array.getElem?_eq_some_iff.1 ho).1
    have := (hls i hi').2 (by simp)
    have e : listed.getD i true = listed.getD i false := by simp [Array.getD, hsz, hi']
    rw [e, this] at h0
    cases h0
  | succ fuel ih =>
    intro rem listed st act w G φ hl hp hlt hsz hls hcl hch h hn hQ
    have hunl : ∀ i, i < ops.size → (listed.getD i true = false ↔ i ∈ rem) := fun i hi => by
      have e : listed.getD i true = listed.getD i false := by simp [Array.getD, hsz, hi]
      rw [e]
      have := hls i hi
      cases hv : listed.getD i false <;> rw [hv] at this <;> simp at this ⊢ <;> exact this
    refine ⟨fun hr => ?_, fun i hi => ?_⟩
    · -- the least that is left may come next
      exfalso
      cases rem with
      | nil => simp at hl
      | cons i0 r =>
        have hi0 : i0 < ops.size := hlt i0 (by simp)
        have : i0 ∈ Region.ready .any ops listed := by
          refine mem_ready.2 ⟨(hunl i0 hi0).2 (by simp), ops[i0], Array.getElem?_eq_getElem hi0, fun e he hbd => ?_⟩
          have hlt' := hb i0 _ (Array.getElem?_eq_getElem hi0) e he hbd
          refine (hls e.on (by omega)).2 fun hm => ?_
          rcases List.mem_cons.1 hm with e1 | hm
          · omega
          · have := (List.pairwise_cons.1 hp).1 _ hm; omega
        rw [hr] at this
        cases this
    · obtain ⟨h0, o, ho, hed⟩ := mem_ready.1 hi
      have hi' : i < ops.size := (Array.getElem?_eq_some_iff.1 ho).1
      have hir : i ∈ rem := (hunl i hi').1 h0
      obtain ⟨xs, ys, rfl⟩ := List.append_of_mem hir
      have hind : ∀ a ∈ xs.map (fun i => al.getD i junkOp), indep a (al.getD i junkOp) = true := fun a ha => by
        obtain ⟨j, hj, rfl⟩ := List.mem_map.1 ha
        have hji : j < i := (List.pairwise_append.1 hp).2.2 j hj i (by simp)
        have hp2 := List.all_eq_true.1 hpairs i (List.mem_range.2 (by rw [← hlen, Array.length_toList]; exact hi'))
        have hp3 := List.all_eq_true.1 hp2 j (List.mem_range.2 hji)
        rw [Bool.or_eq_true] at hp3
        refine hp3.resolve_left fun hm => ?_
        have := mask_listed (S := fun k => k ∉ xs ++ i :: ys) hb (fun k o' ho' hk => hcl k o' ho' hk) i o ho (fun e he hbd => (hls e.on (by have := hb i o ho e he hbd; omega)).1 (hed e he hbd)) j hm
        exact this (by simp [hj])
      rw [List.map_append, List.map_cons] at hch
      obtain ⟨e, hs, hch'⟩ := chain_front _ hch hind
      refine stepR_goes ho (hget i o (by rw [Array.getElem?_toList]; exact ho)) hs h hn fun act' w' G' φ' b1 b2 b3 b4 => ?_
      have hsub : (xs ++ ys).Sublist (xs ++ i :: ys) := List.Sublist.append (List.Sublist.refl _) (List.sublist_cons_self _ _)
      have hni : i ∉ xs ++ ys := fun hm => by
        rcases List.mem_append.1 hm with hm | hm
        · have := (List.pairwise_append.1 hp).2.2 i hm i (by simp); omega
        · have := (List.pairwise_cons.1 (List.pairwise_append.1 hp).2.1).1 i hm; omega
      have hmem : ∀ k, k ≠ i → (k ∈ xs ++ ys ↔ k ∈ xs ++ i :: ys) := fun k hk => by simp [hk]
      refine ih (xs ++ ys) (listed.setIfInBounds i true) (by simp at hl ⊢; omega) (hp.sublist hsub) (fun k hk => hlt k (hsub.subset hk)) (by rw [Array.size_setIfInBounds]; exact hsz) (fun k hk => ?_) (fun k o' ho' hk e' he' hbd => ?_) (by rw [List.map_append]; exact hch') b1 b2 fun act2 w2 G2 φ2 c1 c2 c3 c4 => hQ act2 w2 G2 φ2 c1 c2 (c3.trans b3) (b4.trans c4)
      · by_cases e1 : k = i
        · subst e1
          simp only [hni, not_false_eq_true, iff_true]
          simp [Array.getD, hsz, hk]
        · rw [hmem k e1, ← hls k hk]
          simp only [Array.getD, Array.size_setIfInBounds]
          split
          · simp only [Array.getInternal_eq_getElem]
            rw [Array.getElem_setIfInBounds_ne _ (fun e => e1 e.symm)]
          · rfl
      · by_cases e1 : k = i
        · subst e1
          rw [ho] at ho'
          injection ho' with ho'
          subst ho'
          have hlt2 := hb k o ho e' he' hbd
          have := (hls e'.on (by omega)).1 (hed e' he' hbd)
          exact fun hm => this (hsub.subset hm)
        · have := hcl k o' ho' (fun hm => hk ((hmem k e1).2 hm)) e' he' hbd
          exact fun hm => this (hsub.subset hm)

end
end Go.Proofs.Ythphnacnjbcpiaa.E

/- The engine, part AB: code. Conditions: none. -/
namespace Go.Proofs.Ythphnacnjbcpiaa.E
set_option linter.unusedVariables false
set_option linter.unusedSimpArgs false

def okAC (P : Program) (nt : Nat) : AC → Code → Bool
  | .skip, .skip => true
  | .reg d ops, .region _ os dr => (d == dr) && okOps P nt os os.toList ops && (!dr || (P.follows .mixedOrders && okDraw os ops))
  | .seq a b, .seq x y => okAC P nt a x && okAC P nt b y
  | .cut _ _ a, c => okAC P nt a c
  | .cond c x y, .cond k a b => okOpd k c && okAC P nt x a && okAC P nt y b
  | .block i c, .block j d => (i == j) && okAC P nt c d
  | .loop _ _ c, .loop d => okAC P nt c d
  | .exit i, .exit j => i == j
  | .ret, .ret => true
  | _, _ => false

def AE.out : AE → Exit
  | .normal => .normal
  | .exit i => .exit i
  | .ret => .ret

/-- The machine at the start of a round. -/
def LP (P : Program) (c : Code) (Q : Exit → Act → World → Prop) (a : Act) (w : World) : Prop :=
  ∀ (b : Frame) (k : List Item) (cs : List Frame), ∃ e a' w', Q e a' w' ∧ Arrives P (lone (b.at a (.code c :: .inLoop c :: k)) cs w) b k cs e a' w'
theorem LP.intro {P : Program} {c : Code} {Q : Exit → Act → World → Prop} {a : Act} {w : World} (h : LP P c Q a w) : (Code.loop c).wp P Q a w := fun b k cs =>
  let ⟨e, a', w', hq, harr⟩ := h b k cs
  ⟨e, a', w', hq, .of_steps (.one step_loop) harr⟩
theorem LP.round {P : Program} {c : Code} {Q : Exit → Act → World → Prop} {a : Act} {w : World} (h : c.wp P (Exit.then (LP P c Q) Q) a w) : LP P c Q a w := by
  intro b k cs
  obtain ⟨e, a₁, w₁, hq, harr⟩ := h b (.inLoop c :: k) cs
  cases e with
  | normal =>
    obtain ⟨e₂, a₂, w₂, hq₂, harr₂⟩ := hq b k cs
    exact ⟨e₂, a₂, w₂, hq₂, .of_steps (Steps.trans harr (.one step_inLoop)) harr₂⟩
  | exit id => exact ⟨_, a₁, w₁, hq, .pass (x := .inLoop c) rfl (fun _ _ => .inl (by simp)) harr⟩
  | goto l => exact ⟨_, a₁, w₁, hq, .pass (x := .inLoop c) rfl (fun _ _ => .inl (by simp)) harr⟩
  | ret => exact ⟨_, a₁, w₁, hq, .pass (x := .inLoop c) rfl (fun _ _ => .inl (by simp)) harr⟩
  | panic ch => exact ⟨_, a₁, w₁, hq, .pass (x := .inLoop c) rfl (fun _ _ => .inl (by simp)) harr⟩
  | outgrown => exact ⟨_, a₁, w₁, hq, .pass (x := .inLoop c) rfl (fun _ _ => .inl (by simp)) harr⟩

section
variable {P : Program}

theorem norm_ok {w : World} {G : Nat → Nat} {φ : Nat → Option Nat} {st : St} {ts : Array Value} (h : Inv w G φ st ts) (ke kl : List Nat) : Inv w G φ (st.norm ke kl) ts ∧ Goes w G φ st ts w G φ (st.norm ke kl) ts := by
  obtain ⟨h1, h2⟩ := h.drop (env := keep ke st.env) (loc := keep kl st.loc) (heap := st.heap) List.filter_sublist List.filter_sublist (List.Sublist.refl _)
  exact ⟨h1, Goes.less h2 rfl⟩

/-- A draw is made: memory stays as it is. -/
theorem drawn_ok {w w' : World} (hh : w'.heap = w.heap) (ho : w'.os = w.os) (ht : w'.tape = w.tape) (hu : w'.output = w.output) {G : Nat → Nat} {φ : Nat → Option Nat} {st : St} {ts : Array Value} (h : Inv w G φ st ts) : Inv w' G φ st ts ∧ Goes w G φ st ts w' G φ st ts := by
  have he : Ext w G w' G := ⟨fun _ => Nat.le_refl _, fun b o _ => by simp [World.cell?, hh], fun b cs el fr hb => ⟨cs, by rw [hh]; exact hb, rfl⟩, by rw [hh]; exact Nat.le_refl _, ho, ht, hu⟩
  have hi := h.ext he (fun _ _ h => h) st.ctr h.ctr (fun b _ => ⟨by rw [hh], rfl⟩) (fun b hb => h.zero b (by rw [hh] at hb; exact hb))
  exact ⟨hi, he, fun _ _ h => h, fun b hb hc => ⟨by rw [hh], rfl, by rw [cnt_congr h (fun _ _ h => h) fun b _ => by rw [hh]]; exact hc⟩, Nat.le_refl _⟩

theorem wpC_ok : ∀ (a : AC) {c : Code} {nt : Nat} {w : World} {G : Nat → Nat} {φ : Nat → Option Nat} {st : St} {act : Act} {Q : AE → St → Prop} {M : Exit → Act → World → Prop}, okAC P nt a c = true → wpC (XS P) a Q st → Inv w G φ st act.tmps → act.tmps.size = nt →
    (∀ e st' act' w' G' φ', Q e st' → Inv w' G' φ' st' act'.tmps → act'.tmps.size = nt → act'.defers = act.defers → Goes w G φ st act.tmps w' G' φ' st' act'.tmps → M e.out act' w') → c.wp P M act w
  | .skip, c, nt, w, G, φ, st, act, Q, M, hk, hw, h, hn, hM => by
    cases c <;> first | (cases hk; done) | skip
    exact wp_skip (hM .normal st act w G φ hw h hn rfl (Goes.refl _ _ _ _ _))
  | .exit i, c, nt, w, G, φ, st, act, Q, M, hk, hw, h, hn, hM => by
    cases c <;> first | (cases hk; done) | skip
    have := beq_iff_eq.1 hk
    subst this
    exact wp_exit (hM (.exit i) st act w G φ hw h hn rfl (Goes.refl _ _ _ _ _))
  | .ret, c, nt, w, G, φ, st, act, Q, M, hk, hw, h, hn, hM => by
    cases c <;> first | (cases hk; done) | skip
    exact wp_ret (hM .ret st act w G φ hw h hn rfl (Goes.refl _ _ _ _ _))
  | .cut ke kl a, c, nt, w, G, φ, st, act, Q, M, hk, hw, h, hn, hM => by
    simp only [wpC] at hw
    refine wpC_ok a (by simpa only [okAC] using hk) hw h hn fun e st' act' w' G' φ' hq b1 b2 b3 b4 => ?_
    cases e with
    | normal =>
      obtain ⟨n1, n2⟩ := norm_ok b1 ke kl
      exact hM .normal _ act' w' G' φ' hq n1 b2 b3 (b4.trans n2)
    | exit i => exact hM (.exit i) st' act' w' G' φ' hq b1 b2 b3 b4
    | ret => exact hM .ret st' act' w' G' φ' hq b1 b2 b3 b4
  | .seq a b, c, nt, w, G, φ, st, act, Q, M, hk, hw, h, hn, hM => by
    cases c <;> first | (cases hk; done) | skip
    simp only [okAC, Bool.and_eq_true] at hk
    simp only [wpC] at hw
    refine wp_seq (wpC_ok a hk.1 hw h hn fun e st' act' w' G' φ' hq b1 b2 b3 b4 => ?_)
    cases e with
    | normal => exact wpC_ok b hk.2 hq b1 b2 fun e st2 act2 w2 G2 φ2 hq2 c1 c2 c3 c4 => hM e st2 act2 w2 G2 φ2 hq2 c1 c2 (c3.trans b3) (b4.trans c4)
    | exit i => exact hM (.exit i) st' act' w' G' φ' hq b1 b2 b3 b4
    | ret => exact hM .ret st' act' w' G' φ' hq b1 b2 b3 b4
  | .cond x a b, c, nt, w, G, φ, st, act, Q, M, hk, hw, h, hn, hM => by
    cases c <;> first | (cases hk; done) | skip
    rename_i k ca cb
    simp only [okAC, Bool.and_eq_true] at hk
    simp only [wpC] at hw
    have hev := (ev_R h (okOpd_ok hk.1.1)).1
    cases hb : st.ev x <;> rw [hb] at hw hev <;> first | exact hw.elim | skip
    rename_i t
    simp only at hw
    generalize hu : act.eval k = u at hev
    cases hev
    refine wp_cond (t := t) hu ?_
    cases t with
    | true => exact wpC_ok a hk.1.2 (by simpa using hw) h hn hM
    | false => exact wpC_ok b hk.2 (by simpa using hw) h hn hM
  | .block i a, c, nt, w, G, φ, st, act, Q, M, hk, hw, h, hn, hM => by
    cases c <;> first | (cases hk; done) | skip
    rename_i j cb
    simp only [okAC, Bool.and_eq_true, beq_iff_eq] at hk
    obtain ⟨rfl, hk⟩ := hk
    simp only [wpC] at hw
    refine wp_block (wpC_ok a hk hw h hn fun e st' act' w' G' φ' hq b1 b2 b3 b4 => ?_)
    cases e with
    | normal => exact hM .normal st' act' w' G' φ' hq b1 b2 b3 b4
    | exit k =>
      simp only [AE.out, Exit.inBlock]
      simp only at hq
      by_cases hki : k = i
      · rw [if_pos hki] at hq ⊢
        exact hM .normal st' act' w' G' φ' hq b1 b2 b3 b4
      · rw [if_neg hki] at hq ⊢
        exact hM (.exit k) st' act' w' G' φ' hq b1 b2 b3 b4
    | ret => exact hM .ret st' act' w' G' φ' hq b1 b2 b3 b4
  | .loop ke kl a, c, nt, w, G, φ, st, act, Q, M, hk, hw, h, hn, hM => by
    cases c <;> first | (cases hk; done) | skip
    rename_i cb
    simp only [okAC] at hk
    simp only [wpC] at hw
    refine LP.intro (hw (fun st1 => ∀ act1 w1 G1 φ1, Inv w1 G1 φ1 st1 act1.tmps → act1.tmps.size = nt → act1.defers = act.defers → Goes w G φ st act.tmps w1 G1 φ1 st1 act1.tmps → LP P cb M act1 w1)
      (fun st1 hst1 act1 w1 G1 φ1 a1 a2 a3 a4 => LP.round (wpC_ok a hk hst1 a1 a2 fun e st' act' w' G' φ' hq b1 b2 b3 b4 => ?_)) act w G φ (norm_ok h ke kl).1 hn rfl (norm_ok h ke kl).2)
    cases e with
    | normal =>
      obtain ⟨n1, n2⟩ := norm_ok b1 ke kl
      exact hq act' w' G' φ' n1 b2 (b3.trans a3) ((a4.trans b4).trans n2)
    | exit i => exact hM (.exit i) st' act' w' G' φ' hq b1 b2 (b3.trans a3) (a4.trans b4)
    | ret => exact hM .ret st' act' w' G' φ' hq b1 b2 (b3.trans a3) (a4.trans b4)
  | .reg d ops, c, nt, w, G, φ, st, act, Q, M, hk, hw, h, hn, hM => by
    cases c <;> first | (cases hk; done) | skip
    rename_i id os dr
    simp only [okAC, Bool.and_eq_true, beq_iff_eq, Bool.or_eq_true, Bool.not_eq_true'] at hk
    obtain ⟨⟨rfl, hk1⟩, hk2⟩ := hk
    simp only [wpC] at hw
    cases d with
    | false =>
      rw [if_neg (by simp)] at hw
      exact wp_region_list (wpL_ok _ ops hk1 hw h hn fun st' act' w' G' φ' hq b1 b2 b3 b4 => hM .normal st' act' w' G' φ' hq b1 b2 b3 b4)
    | true =>
      rw [if_pos rfl] at hw
      obtain ⟨hf, hd⟩ := hk2.resolve_left (by simp)
      obtain ⟨stF, hch, hQ⟩ := chain_of_wpLD hw
      obtain ⟨d1, d2⟩ := drawn_ok (w := w) (w' := { w with drawn := w.drawn + 1 }) rfl rfl rfl rfl h
      have hlen := (okOps_get _ _ hk1).1
      rw [Array.length_toList] at hlen
      refine wp_region_any hf (draw_ok hk1 hd (K := Q .normal) hQ os.size (List.range os.size) _ (by simp) List.pairwise_lt_range (fun i hi => List.mem_range.1 hi) (by simp) (fun i hi => by simp [Array.getD, hi]) (fun i o ho hi => absurd (List.mem_range.2 (Array.getElem?_eq_some_iff.1 ho).1) hi) ?_ d1 hn
        fun act' w' G' φ' b1 b2 b3 b4 => hM .normal stF act' w' G' φ' hQ b1 b2 b3 (d2.trans b4))
      have : (List.range os.size).map (fun i => ops.getD i junkOp) = ops := by
        apply List.ext_getElem
        · simp [hlen]
        · intro i h1 h2
          simp [List.getD_eq_getElem?_getD, h2]
      rw [this]
      exact hch

end
end Go.Proofs.Ythphnacnjbcpiaa.E

/- The engine, part AC: functions, and the whole. Conditions: none. -/
namespace Go.Proofs.Ythphnacnjbcpiaa.E
set_option linter.unusedVariables false
set_option linter.unusedSimpArgs false

def okResV (P : Program) : ResultVar → ARes → Bool
  | .tmp t, .t n => t == n
  | .cell a t, .cell n _ k => a == n && aggIs P t k
  | _, _ => false
def okRes (P : Program) : List ResultVar → List ARes → Bool
  | [], [] => true
  | r :: rs, a :: as => okResV P r a && okRes P rs as
  | _, _ => false
def apart : ARes → ARes → Bool
  | .t n, .t m => n != m
  | .t n, .cell m _ _ => n != m
  | .cell _ _ _, _ => true
def apartL : List ARes → Bool
  | [] => true
  | r :: rs => rs.all (apart r) && apartL rs
def okFun (P : Program) (f : Nat) (F : AFun) : Bool := match P.funcs[f]? with
  | some fn => fn.name != "runtime.NumGoroutine" && (match fn.body with | some c => okAC P fn.ntmps F.code c && decide (F.np ≤ fn.ntmps) && okRes P fn.results.toList F.res && apartL F.res | none => false)
  | none => false

section
variable {P : Program} {w : World} {G : Nat → Nat} {φ : Nat → Option Nat} {ts : Array Value}

theorem get_del_ne {α : Type} : ∀ (l : List (Nat × α)) {k j : Nat}, j ≠ k → get (del l k) j = get l j
  | [], k, j, h => rfl
  | (a, z) :: r, k, j, h => by
    have ih := get_del_ne r h
    simp only [del]
    split
    · rename_i e; subst e; rw [get, if_neg h]
    · rw [get, get, ih]

/-- A slot is left. -/
theorem Inv.dropSlot {st : St} (h : Inv w G φ st ts) {n : Nat} {x : V} (hx : get st.env n = some x) : Inv w G φ { st with env := del st.env n } ts ∧ ∀ q, E.cnt w φ { st with env := del st.env n } ts q + tk x (ts.getD n undef) q = E.cnt w φ st ts q := by
  refine ⟨(h.drop (del_sublist _ _) (List.Sublist.refl _) (List.Sublist.refl _)).1, fun q => ?_⟩
  have := sum_del (fun p : Nat × V => tk p.2 (ts.getD p.1 undef) q) hx
  unfold E.cnt envTk
  have e : E.live { st with env := del st.env n } = E.live st := rfl
  rw [e]
  dsimp only at this ⊢
  omega

theorem resL_congr {st st' : St} : ∀ {rs : List ARes}, (∀ r ∈ rs, resV st' r = resV st r) → resL st' rs = resL st rs
  | [], _ => rfl
  | r :: rs, h => by
    simp only [resL]
    rw [h r (by simp), resL_congr fun q hq => h q (by simp [hq])]

/-- One result read by the machine. -/
def rd1 (ts : Array Value) : ResultVar → Sem Value
  | .tmp t => pure (ts.getD t undef)
  | .cell a t => do loadVar t (← asAddr (ts.getD a undef))

theorem resL_ok : ∀ {rv : List ResultVar} {rs : List ARes} {st : St} {ys : List V}, okRes P rv rs = true → apartL rs = true → resL st rs = some ys → Inv w G φ st ts →
    ∃ vs : List Value, (rv.mapM (rd1 ts)).run P w = .ok vs w ∧ All2 (fun y v => R w G φ y v ∧ Tail w G y v) ys vs ∧ ∀ b, vtk ys vs b + cntH w φ st.heap b ≤ E.cnt w φ st ts b
  | [], [], st, ys, _, _, hy, h => by
    simp only [resL, Option.some.injEq] at hy
    subst hy
    refine ⟨[], rfl, .nil, fun b => ?_⟩
    simp only [vtk, List.zip_nil_left, List.map_nil, List.sum_nil, E.cnt]
    have : cntH w φ st.heap b ≤ cntH w φ (E.live st) b := sum_sublist _ (List.sublist_append_right _ _)
    omega
  | [], _ :: _, st, ys, hk, _, _, h => by simp [okRes] at hk
  | _ :: _, [], st, ys, hk, _, _, h => by simp [okRes] at hk
  | rv :: rvs, r :: rs, st, ys, hk, ha, hy, h => by
    simp only [okRes, Bool.and_eq_true] at hk
    simp only [apartL, Bool.and_eq_true, List.all_eq_true] at ha
    simp only [resL] at hy
    obtain ⟨y, hy1, hy⟩ := Option.bind_eq_some_iff.1 hy
    obtain ⟨ys', hy2, rfl⟩ := Option.map_eq_some_iff.1 hy
    have fin : ∀ (st1 : St) (v : Value), resL st1 rs = some ys' → Inv w G φ st1 ts → st1.heap = st.heap → (rd1 ts rv).run P w = .ok v w → R w G φ y v → Tail w G y v → (∀ b, E.cnt w φ st1 ts b + tk y v b ≤ E.cnt w φ st ts b) →
        ∃ vs : List Value, ((rv :: rvs).mapM (rd1 ts)).run P w = .ok vs w ∧ All2 (fun y v => R w G φ y v ∧ Tail w G y v) (y :: ys') vs ∧ ∀ b, vtk (y :: ys') vs b + cntH w φ st.heap b ≤ E.cnt w φ st ts b := fun st1 v h1 h2 h3 h4 h5 h6 h7 => by
      obtain ⟨vs, k1, k2, k3⟩ := resL_ok hk.2 ha.2 h1 h2
      refine ⟨v :: vs, ?_, .cons ⟨h5, h6⟩ k2, fun b => ?_⟩
      · rw [List.mapM_cons, Sem.run_bind, h4, Result.andThen_ok, Sem.run_bind, k1]
        rfl
      · have := k3 b
        have := h7 b
        rw [h3] at *
        have e : vtk (y :: ys') (v :: vs) b = tk y v b + vtk ys' vs b := by simp [vtk]
        omega
    cases r with
    | t n =>
      cases rv with
      | cell a t => exact absurd hk.1 (by simp [okResV])
      | tmp t =>
        have hk1 : t = n := by simpa [okResV] using hk.1
        subst hk1
        simp only [resV] at hy1
        obtain ⟨i1, i2⟩ := h.dropSlot hy1
        have he := h.env _ (get_mem hy1)
        refine fin _ (ts.getD t undef) ?_ i1 rfl rfl he.2.1 he.2.2 fun b => Nat.le_of_eq (i2 b)
        rw [← hy2]
        refine resL_congr fun q hq => ?_
        have := ha.1 q hq
        cases q with
        | t m => simp only [apart, bne_iff_ne] at this; simp only [resV]; exact get_del_ne _ fun e => this e.symm
        | cell m s k => simp only [apart, bne_iff_ne] at this; simp only [resV]; rw [get_del_ne _ fun e => this e.symm]
    | cell n s k =>
      cases rv with
      | tmp t => exact absurd hk.1 (by simp [okResV])
      | cell a t =>
        obtain ⟨hk1, hag⟩ : a = n ∧ aggIs P t k = true := by simpa [okResV] using hk.1
        subst hk1
        simp only [resV] at hy1
        split at hy1 <;> first | (cases hy1; done) | skip
        rename_i b z b' cs hp hg
        split at hy1 <;> first | (cases hy1; done) | skip
        rename_i hb
        subst hb
        obtain ⟨y0, hy0, rfl⟩ := Option.map_eq_some_iff.1 hy1
        have hlive : (b, boxB cs) ∈ live st := by rw [live_eq]; exact List.mem_append_left _ (List.mem_map.2 ⟨_, get_mem hg, rfl⟩)
        obtain ⟨m, cells, el, fr, e1, e2, e3, e4, e5, e6, e7⟩ := boxRep_out (h.live _ hlive)
        have hpr := (h.env _ (get_mem hp)).2.1
        simp only at hpr
        generalize hv0 : ts.getD a undef = v0 at hpr
        cases hpr with | ptr _ _ _ _ _ m' hm =>
        rw [e1] at hm; injection hm with hm; subst hm
        obtain ⟨v, hrun, hr, hvn⟩ := run_loadBlk (P := P) hag e3 e5 (fun i hi => (e7 i hi).1) hy0
        refine fin st v hy2 h rfl ?_ hr.clr (Tail_clr _ _ _ _) (fun b => by rw [tk_clr]; exact Nat.le_refl _)
        unfold rd1
        simp only
        rw [hv0, Sem.run_bind]
        simp only [Nat.zero_mul, Nat.add_zero]
        exact hrun

theorem results_run {fn : Func} {rs : List ARes} {st : St} {ys : List V} (hk : okRes P fn.results.toList rs = true) (ha : apartL rs = true) (hy : resL st rs = some ys) (h : Inv w G φ st ts) :
    ∃ v, (results fn ts).run P w = .ok v w ∧ R w G φ (outV ys) v ∧ Tail w G (outV ys) v ∧ ∀ b, tk (outV ys) v b + cntH w φ st.heap b ≤ E.cnt w φ st ts b := by
  obtain ⟨vs, h1, h2, h3⟩ := resL_ok hk ha hy h
  have hrun : (results fn ts).run P w = .ok (if h : vs.toArray.size = 1 then vs.toArray[0] else .tuple vs.toArray) w := by
    have e : results fn ts = (fn.results.mapM (rd1 ts) >>= fun vs => pure (if h : vs.size = 1 then vs[0] else .tuple vs)) := by
      have : rd1 ts = (fun x => match x with
        | .tmp t => (pure (ts.getD t undef) : Sem Value)
        | .cell a t => do loadVar t (← asAddr (ts.getD a undef))) := by funext x; cases x <;> rfl
      rw [this]; rfl
    rw [e, Array.mapM_eq_mapM_toList, Sem.run_bind, map_eq_pure_bind, Sem.run_bind, h1]
    rfl
  have hlen := h2.length
  by_cases h1' : ys.length = 1
  · obtain ⟨y, rfl⟩ := List.length_eq_one_iff.1 h1'
    cases h2 with | cons hp ht =>
    cases ht
    rename_i v
    refine ⟨v, by rw [hrun]; rfl, hp.1, hp.2, fun b => ?_⟩
    have := h3 b
    simpa [vtk, outV] using this
  · have ho : outV ys = .tup ys := by
      unfold outV
      split
      · exact absurd rfl h1'
      · rfl
    have hs : ¬ vs.toArray.size = 1 := by simp; omega
    refine ⟨.tuple vs.toArray, by rw [hrun, dif_neg hs], ?_, ?_, fun b => ?_⟩
    · rw [ho]
      refine .tup _ _ _ (by simp [hlen]) fun i hi => ?_
      have hz := h2.zip_mem (ys[i], vs[i]'(by omega)) (List.mem_iff_getElem.2 ⟨i, by rw [List.length_zip]; omega, by rw [List.getElem_zip]⟩)
      have hiv : i < vs.length := by omega
      have : vs.toArray.getD i undef = vs[i] := by simp [Array.getD, hiv]
      rw [this]
      exact hz.1
    · rw [ho]
      intro p hp
      rw [show leaves (.tup ys) (.tuple vs.toArray) = (ys.zip vs).flatMap fun p => p.1.cells.zip p.2.cells.toList from by simp [leaves], List.mem_flatMap] at hp
      obtain ⟨q, hq, hp⟩ := hp
      obtain ⟨y, u⟩ := q
      have hz := (h2.zip_mem _ hq).2
      by_cases hc : ∃ zs, y = .tup zs
      · obtain ⟨zs, rfl⟩ := hc
        obtain ⟨c, d⟩ := p
        have := (List.of_mem_zip hp).1
        simp [V.cells] at this
        subst this
        trivial
      · exact hz p (by rw [leaves_of_not_tup fun zs e => hc ⟨zs, e⟩]; exact hp)
    · rw [ho, tk_tup]
      have hle : tkT ys vs b ≤ vtk ys vs b := by
        unfold tkT vtk
        clear h1 hrun h3 hlen hy ho hs h1' hk ha h2
        induction ys generalizing vs with
        | nil => simp
        | cons y ys ih =>
          cases vs with
          | nil => simp
          | cons u vs =>
            simp only [List.zip_cons_cons, List.map_cons, List.sum_cons]
            have := ih vs
            have h1 : sumTk (y.cells.zip u.cells.toList) b ≤ tk y u b := by
              by_cases hc : ∃ zs, y = .tup zs
              · obtain ⟨zs, rfl⟩ := hc
                rw [sumTk_zero fun p hp => ?_]
                · exact Nat.zero_le _
                · obtain ⟨c, d⟩ := p
                  have := (List.of_mem_zip hp).1
                  simp [V.cells] at this
                  subst this
                  rfl
              · unfold tk
                rw [leaves_of_not_tup fun zs e => hc ⟨zs, e⟩]
                exact Nat.le_refl _
            omega
      have := h3 b
      simp only at hle ⊢
      omega

end
end Go.Proofs.Ythphnacnjbcpiaa.E

/- The engine, part AD: what a table of functions says, the machine does. Conditions: none. -/
namespace Go.Proofs.Ythphnacnjbcpiaa.E
set_option linter.unusedVariables false
set_option linter.unusedSimpArgs false

section
variable {P : Program} {w : World} {G : Nat → Nat} {φ : Nat → Option Nat} {ts : Array Value}

theorem mem_initE : ∀ {args : List V} {k : Nat} {p : Nat × V}, p ∈ initE k args → ∃ i, p.1 = k + i ∧ args[i]? = some p.2
  | [], k, p, h => by simp [initE] at h
  | x :: r, k, p, h => by
    simp only [initE, List.mem_cons] at h
    rcases h with rfl | h
    · exact ⟨0, rfl, rfl⟩
    · obtain ⟨i, h1, h2⟩ := mem_initE h
      exact ⟨i + 1, by omega, by simpa using h2⟩
theorem initE_sorted : ∀ (args : List V) (k : Nat), Sorted (initE k args)
  | [], k => List.Pairwise.nil
  | x :: r, k => by
    refine List.Pairwise.cons (fun p hp => ?_) (initE_sorted r (k + 1))
    obtain ⟨i, h1, _⟩ := mem_initE hp
    simp only
    omega
theorem initE_tk (ts : Array Value) (b : Nat) : ∀ (args : List V) (vs : List Value) (k : Nat), args.length = vs.length → (∀ i (h : i < vs.length), ts.getD (k + i) undef = vs[i]) → envTk (initE k args) ts b = vtk args vs b
  | [], vs, k, _, _ => by simp [initE, envTk, vtk]
  | x :: r, [], k, h, _ => by simp at h
  | x :: r, v :: vs, k, h, hh => by
    have ih := initE_tk ts b r vs (k + 1) (by simpa using h) fun i hi => by
      have := hh (i + 1) (by simpa using hi)
      simpa [Nat.add_assoc, Nat.add_comm 1 i] using this
    have h0 := hh 0 (by simp)
    simp only [Nat.add_zero, List.getElem_cons_zero] at h0
    simp only [initE, envTk, vtk, List.map_cons, List.sum_cons, List.zip_cons_cons, h0] at ih ⊢
    omega

/-- What is known of the functions that are not given as code. -/
def ExtOk (P : Program) (T : Tab) : Prop := ∀ f v args heap n q, T.ext f args heap n = some q → XS P f v args heap n (fun r h' n' => r = q.1 ∧ h' = q.2.1 ∧ n' = q.2.2)
theorem XS.weaken {f v : Nat} {args : List V} {heap : Heap} {n : Nat} {Q Q' : V → Heap → Nat → Prop} (h : XS P f v args heap n Q) (hq : ∀ r h n, Q r h n → Q' r h n) : XS P f v args heap n Q' :=
  ⟨h.1, fun w G φ vs hp => (h.2 w G φ vs hp).mono fun e w' ⟨r, u, heap', n', G', φ', h1, h2, h3⟩ => ⟨r, u, heap', n', G', φ', h1, hq _ _ _ h2, h3⟩⟩
theorem phi_ok {T : Tab} (hT : ∀ f v F, T.fn f v = some F → okFun P f F = true) (hE : ExtOk P T) (f v : Nat) (args : List V) (heap : Heap) (n : Nat) (Q : V → Heap → Nat → Prop) (h : Phi T (XS P) f v args heap n Q) : XS P f v args heap n Q := by
  rcases h with h | h
  · cases hx : T.ext f args heap n with
    | none => rw [hx] at h; exact h.elim
    | some q =>
      rw [hx] at h
      exact (hE f v args heap n q hx).weaken fun r h' n' hh => by obtain ⟨rfl, rfl, rfl⟩ := hh; exact h
  cases hF : T.fn f v with
  | none => rw [hF] at h; exact h.elim
  | some F =>
    rw [hF] at h
    obtain ⟨hnp, hw⟩ := h
    have hok := hT f v F hF
    unfold okFun at hok
    split at hok <;> first | (cases hok; done) | skip
    rename_i fn hfn
    rw [Bool.and_eq_true] at hok
    obtain ⟨hnm, hok⟩ := hok
    split at hok <;> first | (cases hok; done) | skip
    rename_i c hbody
    simp only [Bool.and_eq_true, decide_eq_true_iff] at hok
    obtain ⟨⟨⟨o1, o2⟩, o3⟩, o4⟩ := hok
    refine ⟨by unfold entersB; rw [hfn]; simp only [hnm, hbody, Option.isSome_some, Bool.and_self], ?_⟩
    intro w G φ vs hp
    obtain ⟨ha, hh, hs, hc, hn, hz⟩ := hp
    have hlen := ha.length
    refine calls_of_wp hfn hbody ?_
    have hget : ∀ i (hi : i < vs.length), (vs.toArray ++ Array.replicate (fn.ntmps - vs.toArray.size) undef).getD i undef = vs[i] := fun i hi => by
      simp only [Array.getD, Array.size_append, List.size_toArray, Array.size_replicate]
      rw [dif_pos (by omega)]
      simp only [Array.getInternal_eq_getElem]
      rw [Array.getElem_append_left (by simpa using hi)]
      simp
    have hInv : Inv w G φ ⟨initE 0 args, [], heap, n⟩ (vs.toArray ++ Array.replicate (fn.ntmps - vs.toArray.size) undef) := by
      refine ⟨initE_sorted _ _, List.Pairwise.nil, hs, fun p hp => ?_, fun p hp => ?_, fun b => ?_, hn, hz⟩
      · obtain ⟨i, h1, h2⟩ := mem_initE hp
        obtain ⟨hi, h3⟩ := List.getElem?_eq_some_iff.1 h2
        have hp1 : p.1 = i := by omega
        rw [hp1, hget i (by omega), ← h3]
        have := ha.get i hi (by omega)
        exact ⟨by simp; omega, this.1, this.2⟩
      · simp only [live, List.map_nil, List.nil_append] at hp
        exact hh p hp
      · have := hc b
        have e := initE_tk (vs.toArray ++ Array.replicate (fn.ntmps - vs.toArray.size) undef) b args vs 0 hlen fun i hi => by rw [Nat.zero_add]; exact hget i hi
        unfold cnt
        simp only [live, List.map_nil, List.nil_append]
        omega
    have hcnt0 : ∀ b, cnt w φ ⟨initE 0 args, [], heap, n⟩ (vs.toArray ++ Array.replicate (fn.ntmps - vs.toArray.size) undef) b = vtk args vs b + cntH w φ heap b := fun b => by
      have e := initE_tk (vs.toArray ++ Array.replicate (fn.ntmps - vs.toArray.size) undef) b args vs 0 hlen fun i hi => by rw [Nat.zero_add]; exact hget i hi
      unfold cnt
      simp only [live, List.map_nil, List.nil_append]
      omega
    refine wpC_ok F.code o1 hw hInv (by simp; omega) fun e st' act' w' G' φ' hq b1 b2 b3 b4 => ?_
    have fin : W (resL st' F.res) (fun rs => Q (outV rs) st'.heap st'.ctr) → act'.defers = [] ∧ ∃ u, (results fn act'.tmps).run P w' = .ok u w' ∧ ∃ r u' heap' n' G' φ', (Ending.returned u : Ending) = .returned u' ∧ Q r heap' n' ∧ HRes w G φ args vs heap n r heap' n' u' w' G' φ' := fun hw => by
      cases hy : resL st' F.res with
      | none => rw [hy] at hw; exact hw.elim
      | some ys =>
        rw [hy] at hw
        obtain ⟨u, r1, r2, r3, r4⟩ := results_run o3 o4 hy b1
        refine ⟨b3, u, r1, outV ys, u, st'.heap, st'.ctr, G', φ', rfl, hw, r2, r3, fun p hp => b1.live p (List.mem_append_right _ hp), b1.sortedH, fun b => Nat.le_trans (r4 b) (b1.cnt b), b1.ctr, b4.ctr, b1.zero, b4.ext, b4.mono, fun b hb hb0 => ?_⟩
        have := b4.fr b hb (by rw [hcnt0 b]; exact hb0)
        refine ⟨this.1, this.2.1, ?_⟩
        have := r4 b
        have := this
        omega
    cases e with
    | normal => exact fin hq
    | ret => exact fin hq
    | exit i => exact hq.elim

/-- What a table of functions says, the machine does. -/
theorem run_ok {T : Tab} (hT : ∀ f v F, T.fn f v = some F → okFun P f F = true) (hE : ExtOk P T) {f v : Nat} {args : List V} {heap : Heap} {n : Nat} {Q : V → Heap → Nat → Prop} (h : Run T f v args heap n Q) : XS P f v args heap n Q := h (XS P) fun f v args heap n Q => phi_ok hT hE f v args heap n Q

/-- A function of plain values that leaves all as it is. -/
theorem xs_pure {f v : Nat} {args : List V} {heap : Heap} {n : Nat} {r : V} (he : entersB P f = true) (hp : plainV r = true) (h : ∀ (w : World) (G : Nat → Nat) (φ : Nat → Option Nat) (vs : List Value), All2 (R w G φ) args vs → Calls P f vs.toArray w fun e w' => ∃ u, e = .returned u ∧ w' = w ∧ R w G φ r u) :
    XS P f v args heap n (fun r' h' n' => r' = r ∧ h' = heap ∧ n' = n) :=
  ⟨he, fun w G φ vs hh => (h w G φ vs (hh.ok.imp fun _ _ q => q.1)).mono fun e w' ⟨u, h1, h2, h3⟩ => by
    subst h2
    exact ⟨r, u, heap, n, G, φ, h1, ⟨rfl, rfl, rfl⟩, HRes.same hh h3 (Tail_plain hp _) fun b => tk_plain hp _ b⟩⟩

end
end Go.Proofs.Ythphnacnjbcpiaa.E

/- The engine, part AH: a law's arguments, as trees; and the law's row out of what the abstract code says. Conditions: none. -/
namespace Go.Proofs.Ythphnacnjbcpiaa.E
open Go.RowKit Go.WideShapes
set_option linter.unusedVariables false
set_option linter.unusedSimpArgs false

/-- All cells of what was there are left alone. -/
def full (w : World) (b : Nat) : Nat := match w.heap[b]? with | some (.cells cs _ _) => cs.size | _ => 0
theorem full_big (w : World) (b : Nat) (h : w.heap.size ≤ b) : full w b = 0 := by unfold full; rw [Array.getElem?_eq_none h]
theorem lt_full {w : World} {b o : Nat} {v : Value} (h : w.cell? ⟨b, o, none⟩ = some v) : o < full w b := by
  unfold World.cell? at h
  unfold full
  simp only at h
  split at h <;> first | (cases h; done) | skip
  rename_i cs el fr hb
  rw [hb]
  simp only [Option.isSome_none, Bool.false_eq_true, if_false] at h
  exact (Array.getElem?_eq_some_iff.1 h).1

abbrev R1 (w : World) (x : V) (v : Value) : Prop := R w (full w) (fun _ => none) x v
/-- A value of type t reads as a tree. -/
structure Opens {α : Type} (P : Program) (t : TypeId) (sz : Nat) (vl : α → V) (Gd : α → Prop) : Prop where
  size : P.cellsOf t = sz
  len : ∀ a, (vl a).cells.length = sz
  nh : ∀ a, ∀ c ∈ (vl a).cells, noH1 c = true ∧ clr1 c = c
  out : ∀ {H : Type} {enc : TypeId × Value → H} {w : World} {held : Bool} {fuel : Nat} {cs : List Value} {x : DataW H × List MemPlace}, DataW.trod enc P w 0 (fun _ => true) held fuel t cs = some x →
    (∀ n ∈ x.1.weights P t, n ≤ reachBytes) → ∃ a : α, All2 (R1 w) (vl a).cells cs ∧ Gd a

def vInt (k : IntKind) (n : Int) : V := .int k n
def vBool (b : Bool) : V := .bool b
def vStr (s : List UInt8) : V := .str s
def vSl {α : Type} (sz : Nat) (vl : α → V) (l : List α) : V := .sl false sz (l.map vl)

theorem opens_int {P : Program} {t : TypeId} {k : IntKind} (ht : P.underlying t = some (.int k)) (hs : P.cellsOf t = 1) : Opens P t 1 (vInt k) (fun x => (Lit.int k x).wf = true) where
  size := hs
  len _ := rfl
  nh a c hc := by obtain rfl := List.mem_singleton.1 hc; exact ⟨rfl, rfl⟩
  out := by
    intro H enc w held fuel cs x h _
    obtain ⟨n, rfl, _, hw⟩ := DataW.trod_int ht h
    exact ⟨n, .cons (.int _ _ _) .nil, hw⟩
theorem opens_bool {P : Program} {t : TypeId} (ht : P.underlying t = some .bool) (hs : P.cellsOf t = 1) : Opens P t 1 vBool (fun _ => True) where
  size := hs
  len _ := rfl
  nh a c hc := by obtain rfl := List.mem_singleton.1 hc; exact ⟨rfl, rfl⟩
  out := by
    intro H enc w held fuel cs x h _
    obtain ⟨n, rfl, _⟩ := DataW.trod_bool ht h
    exact ⟨n, .cons (.bool _ _) .nil, trivial⟩
theorem opens_string {P : Program} {t : TypeId} (ht : P.underlying t = some .string) (hs : P.cellsOf t = 1) : Opens P t 1 vStr (fun s => s.length ≤ 140737488351232) where
  size := hs
  len _ := rfl
  nh a c hc := by obtain rfl := List.mem_singleton.1 hc; exact ⟨rfl, rfl⟩
  out := by
    intro H enc w held fuel cs x h hw
    obtain ⟨s, rfl, rfl, _⟩ := DataW.trod_string ht h
    refine ⟨s.data.toList, .cons (.str _ _) .nil, ?_⟩
    have z := hw s.data.toList.length (by simp [DataW.weights])
    simpa [reachBytes] using z

theorem weights_all {H : Type} {P : Program} {e : TypeId} : ∀ {l : List (DataW H)} {d : DataW H}, d ∈ l → ∀ n ∈ d.weights P e, n ∈ DataW.weightsAll P e l
  | [], _, h, _, _ => by cases h
  | x :: l, d, h, n, hn => by
    simp only [DataW.weightsAll, List.mem_append]
    rcases List.mem_cons.1 h with rfl | h
    · exact .inl hn
    · exact .inr (weights_all h n hn)

theorem opens_slice {α : Type} {P : Program} {t e : TypeId} {vl : α → V} {sz : Nat} {G : α → Prop} (B : Nat) (hsz : 0 < sz) (ht : P.underlying t = some (.slice e)) (hs : P.cellsOf t = 1) (hB : P.bytesOf e = B) (ho : Opens P e sz vl G) :
    Opens P t 1 (vSl sz vl) (fun l => l.length * B ≤ 140737488351232 ∧ ∀ x ∈ l, G x) where
  size := hs
  len _ := rfl
  nh a c hc := by obtain rfl := List.mem_singleton.1 hc; exact ⟨rfl, rfl⟩
  out := by
    intro H enc w held fuel cs x h hw
    rcases DataW.trod_slice ht h with ⟨rfl, rfl⟩ | ⟨a, len, cap, elems, rest, n, rfl, rfl, rfl, _, hl, hm, hlen, hel, _, _⟩
    · exact ⟨[], .cons (.slNil _ _ _ _ _) .nil, by simp, by simp⟩
    · have each : ∀ i, i < len → ∃ (z : α) (c : List Value), c.length = sz ∧ All2 (R1 w) (vl z).cells c ∧ G z ∧ ∀ j u, c[j]? = some u → w.cell? (a.add (i * sz + j)) = some u := by
        intro i hi
        have h1 := hel i hi
        have hil : i < elems.length := by omega
        rw [List.getElem?_eq_getElem hil, Option.bind_eq_some_iff] at h1
        obtain ⟨c, hc, hy⟩ := h1
        obtain ⟨z, hz, hg⟩ := ho.out hy (fun n hn => hw n (by
          simp only [DataW.weights, ht, List.mem_cons, List.mem_append]
          exact .inr (.inl (weights_all (List.mem_map.2 ⟨_, List.getElem_mem hil, rfl⟩) n hn))))
        obtain ⟨_, hcl, hcell⟩ := World.cells?_some hc
        rw [ho.size] at hcl hcell
        refine ⟨z, c, hcl, hz, hg, fun j u hu => ?_⟩
        have hj : j < c.length := (List.getElem?_eq_some_iff.1 hu).1
        have := hcell j (by omega)
        rw [← hu, ← this, Go.Deep.add_add]
      have pick : ∀ m, m ≤ len → ∃ zs : List α, zs.length = m ∧ (∀ x ∈ zs, G x) ∧ ∀ i p, zs[i]? = some p → ∃ c, c.length = sz ∧ All2 (R1 w) (vl p).cells c ∧ ∀ j u, c[j]? = some u → w.cell? (a.add (i * sz + j)) = some u := by
        intro m
        induction m with
        | zero => exact fun _ => ⟨[], rfl, by simp, by simp⟩
        | succ m ih =>
          intro hm'
          obtain ⟨zs, h1, h2, h3⟩ := ih (by omega)
          obtain ⟨z, c, hcl, hz, hg, hcell⟩ := each m (by omega)
          refine ⟨zs ++ [z], by simp [h1], fun x hx => ?_, fun i p hp => ?_⟩
          · rcases List.mem_append.1 hx with hx | hx
            · exact h2 x hx
            · rw [List.mem_singleton.1 hx]
              exact hg
          · rcases Nat.lt_or_ge i zs.length with hi | hi
            · rw [List.getElem?_append_left hi] at hp
              exact h3 i p hp
            · have hi' : i = zs.length := by
                have := (List.getElem?_eq_some_iff.1 hp).1
                simp at this
                omega
              subst hi'
              have hp' : z = p := by simpa using hp
              subst hp'
              rw [h1]
              exact ⟨c, hcl, hz, hcell⟩
      obtain ⟨zs, hzl, hG, hat⟩ := pick len (Nat.le_refl _)
      have hwt := hw ((elems.length + rest.length) * P.bytesOf e) (by simp [DataW.weights, ht])
      refine ⟨zs, .cons ?_ .nil, ?_, hG⟩
      · subst hzl
        rcases Nat.eq_zero_or_pos zs.length with h0 | hpos
        · obtain rfl : zs = [] := List.eq_nil_of_length_eq_zero h0
          exact .slNil _ _ _ _ _
        · have hsp : a.spot = none := by
            obtain ⟨c, hc1, _, hc3⟩ := hat 0 zs[0] (List.getElem?_eq_getElem hpos)
            have := hc3 0 c[0] (List.getElem?_eq_getElem (by omega))
            rw [Nat.zero_mul] at this
            exact World.cell?_spot this
          obtain ⟨blk, off, sp⟩ := a
          simp only at hsp
          subst hsp
          have hx : ∀ i (hi : i < zs.length), ∃ c : List Value, c.length = sz ∧ All2 (R1 w) (vl zs[i]).cells c ∧ ∀ j u, c[j]? = some u → w.cell? ⟨blk, off + i * sz + j, none⟩ = some u := fun i hi => by
            obtain ⟨c, h1, h2, h3⟩ := hat i zs[i] (List.getElem?_eq_getElem hi)
            refine ⟨c, h1, h2, fun j u hu => ?_⟩
            have := h3 j u hu
            rw [add_none] at this
            rw [Nat.add_assoc]
            exact this
          let f : Nat → Nat → Value := fun i j => (w.cell? ⟨blk, off + i * sz + j, none⟩).getD undef
          have hf : ∀ i j, i < zs.length → j < sz → w.cell? ⟨blk, off + i * sz + j, none⟩ = some (f i j) ∧ ∀ (hi : i < zs.length) (hj : j < (vl zs[i]).cells.length), R1 w ((vl zs[i]).cells[j]) (f i j) := fun i j hi hj => by
            obtain ⟨c, h1, h2, h3⟩ := hx i hi
            have h4 := h3 j c[j] (List.getElem?_eq_getElem (by omega))
            have e : f i j = c[j] := by simp only [f, h4, Option.getD_some]
            refine ⟨by rw [h4, e], fun _ hj' => ?_⟩
            rw [e]
            exact h2.get j hj' (by omega)
          have hml : (zs.map vl).length = zs.length := List.length_map ..
          have hmain := R.sl (w := w) (G := full w) (fun _ => none) false sz (zs.map vl) blk off cap f (by rw [hml]; exact hl) (fun i j hi hj => (hf i j (by omega) hj).1) (fun i j hi hj => ?_) (fun i hi => ?_) (fun i j hi hj => ?_) ?_
          · rw [hml] at hmain
            exact hmain
          · have hi' : i < zs.length := by omega
            have hj' : j < (vl zs[i]).cells.length := by rw [ho.len]; exact hj
            exact oneCell_noH1 ((hf i j hi' hj).2 hi' hj') (ho.nh _ _ (List.getElem_mem hj')).1
          · rw [List.getElem_map]; exact ho.len _
          · have hi' : i < zs.length := by omega
            simp only [List.getElem_map] at hj ⊢
            exact (hf i j hi' (by rw [ho.len] at hj; exact hj)).2 hi' hj
          · rw [hml]
            have h1 := (hf (zs.length - 1) (sz - 1) (by omega) (by omega)).1
            have h2 := lt_full h1
            have h3 : zs.length * sz = (zs.length - 1) * sz + sz := by
              rw [← Nat.succ_mul]; congr 1; omega
            omega
      · rw [hB] at hwt
        rw [hzl, ← hlen]
        exact Nat.le_trans (Nat.mul_le_mul_right _ (Nat.le_add_right _ _)) (by simpa [reachBytes] using hwt)

/-- A struct's fields from place o on. -/
structure OpensF {α : Type} (P : Program) (fs : List Field) (o sz : Nat) (cl : α → List V) (G : α → Prop) : Prop where
  len : ∀ a, (cl a).length = sz
  nh : ∀ a, ∀ c ∈ cl a, noH1 c = true ∧ clr1 c = c
  out : ∀ {H : Type} {enc : TypeId × Value → H} {w : World} {held : Bool} {n : Nat} {cs : List Value} {xs : List (DataW H × List MemPlace)}, cs.length = o + sz → xs.length = fs.length →
    (∀ (i : Nat) (f : Field), fs[i]? = some f → DataW.trod enc P w 0 (fun _ => true) held n f.type ((cs.drop f.offset).take (P.cellsOf f.type)) = xs[i]?) →
    (∀ n ∈ DataW.weightsEach P (fs.map (·.type)) (xs.map (·.1)), n ≤ reachBytes) → ∃ a : α, All2 (R1 w) (cl a) (cs.drop o) ∧ G a
theorem opensF_one {α : Type} {P : Program} {f : Field} {vl : α → V} {G : α → Prop} {o sz : Nat} (hoff : f.offset = o) (ho : Opens P f.type sz vl G) : OpensF P [f] o sz (fun a => (vl a).cells) G where
  len := ho.len
  nh := ho.nh
  out := by
    subst hoff
    intro H enc w held n cs xs hl hx hf hw
    match xs, hx with
    | [x], _ =>
      have h1 := hf 0 f rfl
      simp only [List.getElem?_cons_zero] at h1
      obtain ⟨a, hk, hg⟩ := ho.out h1 (fun n hn => hw n (by simp only [List.map_cons, DataW.weightsEach, List.mem_append]; exact .inl hn))
      rw [ho.size, List.take_of_length_le (by rw [List.length_drop]; omega)] at hk
      exact ⟨a, hk, hg⟩
theorem All2.append {α β : Type} {p : α → β → Prop} {x x' : List α} {y y' : List β} (h : All2 p x y) (h' : All2 p x' y') : All2 p (x ++ x') (y ++ y') := by
  induction h with
  | nil => exact h'
  | cons h _ ih => exact .cons h ih
theorem opensF_cons {α β : Type} {P : Program} {f : Field} {fs : List Field} {vl : α → V} {cr : β → List V} {G : α → Prop} {Gr : β → Prop} {o s1 s2 : Nat} (hoff : f.offset = o) (ho : Opens P f.type s1 vl G) (hr : OpensF P fs (o + s1) s2 cr Gr) :
    OpensF P (f :: fs) o (s1 + s2) (fun x : α × β => (vl x.1).cells ++ cr x.2) (fun x => G x.1 ∧ Gr x.2) where
  len a := by rw [List.length_append, ho.len, hr.len]
  nh a c hc := by
    rcases List.mem_append.1 hc with hc | hc
    · exact ho.nh _ _ hc
    · exact hr.nh _ _ hc
  out := by
    subst hoff
    intro H enc w held n cs xs hl hx hf hw
    match xs, hx with
    | x :: xs, hx =>
      have h1 := hf 0 f rfl
      simp only [List.getElem?_cons_zero] at h1
      obtain ⟨a, hk, hg⟩ := ho.out h1 (fun n hn => hw n (by simp only [List.map_cons, DataW.weightsEach, List.mem_append]; exact .inl hn))
      obtain ⟨b, hkb, hgb⟩ := hr.out (cs := cs) (xs := xs) (by omega) (by simpa using hx) (fun i g hi => by simpa using hf (i + 1) g (by simpa using hi)) (fun n hn => hw n (by simp only [List.map_cons, DataW.weightsEach, List.mem_append]; exact .inr hn))
      refine ⟨(a, b), ?_, hg, hgb⟩
      have := hk.append hkb
      rw [ho.size, ← List.drop_drop, List.take_append_drop] at this
      exact this
theorem opens_struct {α β : Type} {P : Program} {t : TypeId} {fs : Array Field} {sz : Nat} {cl : α → List V} {G : α → Prop} (f : β → α) (hsur : ∀ a, ∃ b, f b = a) (ht : P.underlying t = some (.struct fs)) (hs : P.cellsOf t = sz) (ho : OpensF P fs.toList 0 sz cl G) :
    Opens P t sz (fun b => V.agg (cl (f b))) (fun x => G (f x)) where
  size := hs
  len b := ho.len _
  nh b := ho.nh _
  out := by
    intro H enc w held fuel cs x h hw
    obtain ⟨xs, n, rfl, rfl, hl, hx, hf⟩ := DataW.trod_struct ht h
    obtain ⟨a, hk, hg⟩ := ho.out (by rw [hl, hs]; omega) (by simpa using hx) (fun i f hi => hf i f (by simpa using hi)) (fun n hn => hw n (by simp only [DataW.weights, ht]; exact hn))
    obtain ⟨b, rfl⟩ := hsur a
    rw [List.drop_zero] at hk
    exact ⟨b, hk, hg⟩
theorem Opens.weaken {α : Type} {P : Program} {t : TypeId} {sz : Nat} {vl : α → V} {G G' : α → Prop} (h : Opens P t sz vl G) (hg : ∀ x, G x → G' x) : Opens P t sz vl G' where
  size := h.size
  len := h.len
  nh := h.nh
  out := fun h1 h2 => by
    obtain ⟨a, hk, hG⟩ := h.out h1 h2
    exact ⟨a, hk, hg a hG⟩

/-- An argument, as the engine wants it. -/
def ArgOk (w : World) (x : V) (v : Value) : Prop := R1 w x v ∧ noH2 x = true ∧ clr x = x
theorem arg_one {α : Type} {P : Program} {t : TypeId} {vl : α → V} {Gd : α → Prop} {w : World} {v : Value} {a : α} (ho : Opens P t 1 vl Gd) (hv : v.cells = #[v]) (h1 : (vl a).cells = [vl a]) (h : All2 (R1 w) (vl a).cells v.cells.toList) : ArgOk w (vl a) v := by
  rw [hv, h1] at h
  cases h with | cons h _ =>
  obtain ⟨n1, n2⟩ := ho.nh a (vl a) (by rw [h1]; simp)
  refine ⟨h, ?_, ?_⟩
  · cases hx : vl a <;> rw [hx] at n1 <;> first | exact n1 | (simp [noH1] at n1)
  · cases hx : vl a <;> rw [hx] at n1 n2 <;> first | exact n2 | (simp [noH1] at n1)
theorem arg_agg {α : Type} {P : Program} {t : TypeId} {sz : Nat} {cl : α → List V} {Gd : α → Prop} {w : World} {cs : Array Value} {a : α} (ho : Opens P t sz (fun a => V.agg (cl a)) Gd) (h : All2 (R1 w) (cl a) (Value.agg cs).cells.toList) : ArgOk w (.agg (cl a)) (.agg cs) := by
  have hc : (Value.agg cs).cells = cs := rfl
  rw [hc] at h
  have hl := h.length
  have nh := ho.nh a
  refine ⟨.agg _ _ _ (by simpa using hl.symm) fun i hi => ?_, ?_, ?_⟩
  · have hi2 : i < cs.size := by have := Array.length_toList (xs := cs); omega
    have := h.get i hi (by simpa using hi2)
    have e : cs.getD i undef = cs.toList[i]'(by simpa using hi2) := by simp [Array.getD, hi2]
    rw [e]
    exact this
  · simp only [noH2, List.all_eq_true]
    exact fun c hc => (nh c hc).1
  · simp only [clr, clr2]
    congr 1
    have : (cl a).map clr1 = (cl a).map id := List.map_congr_left fun c hc => (nh c hc).2
    rw [this, List.map_id]

/-- A law's call: what the abstract code says, the machine does; what was there stays. -/
theorem law_calls {P : Program} {T : Tab} (hT : ∀ f v F, T.fn f v = some F → okFun P f F = true) (hE : ExtOk P T) {f : Nat} {args : List V} {vs : List Value} {w : World} (hargs : All2 (ArgOk w) args vs) (h : Run T f 0 args [] 0 (fun r _ _ => r = .bool true)) :
    Calls P f vs.toArray w fun e w' => e = .returned (.bool true) ∧ Below w.heap.size w w' := by
  have htk0 : ∀ {x : V} {v : Value}, clr x = x → (∀ b, tk x v b = 0) ∧ Tail w (full w) x v := fun {x v} hx => by
    rw [← hx]; exact ⟨fun b => tk_clr _ _ _, Tail_clr _ _ _ _⟩
  have hv0 : ∀ b, vtk args vs b = 0 := fun b => by
    have hz := hargs
    clear h hargs
    induction hz with
    | nil => rfl
    | @cons x v xs' vs' hp _ ih =>
      have e : vtk (x :: xs') (v :: vs') b = tk x v b + vtk xs' vs' b := by simp [vtk]
      rw [e, ih, (htk0 hp.2.2).1]
  have hX := run_ok hT hE h
  refine (hX.2 w (full w) (fun _ => none) vs ⟨hargs.imp fun x v hh => ⟨hh.1, (htk0 hh.2.2).2⟩, (fun p hp => nomatch hp), List.Pairwise.nil, fun b => (by rw [hv0 b]; simp [cntH]), (fun b m hb => nomatch hb), full_big w⟩).mono ?_
  rintro e w' ⟨r, u, heap', n', G', φ', rfl, rfl, H⟩
  have hu := H.rel
  cases hu
  exact ⟨rfl, H.ext.os, H.ext.tape, H.ext.output, H.ext.size, fun k hk => (H.fr k hk (by rw [hv0 k]; simp [cntH])).1⟩

end Go.Proofs.Ythphnacnjbcpiaa.E

/- The engine, part AE: how abstract code is run by rewriting. Conditions: none. -/
namespace Go.Proofs.Ythphnacnjbcpiaa.E
set_option linter.unusedVariables false
set_option linter.unusedSimpArgs false

section
variable {X : Sem3} {Q : AE → St → Prop} {K : St → Prop}

theorem nr {α : Sort _} {a b : α} (h : a = b) : a = b := h
/-- A mark that keeps what it marks from being rewritten. -/
structure Tag {α : Sort _} (a : α) : Type where
def WK {α : Type} (o : Option α) (k : α → Prop) (t : Tag k) : Prop := W o k
@[congr] theorem WK_congr {α : Type} {o o' : Option α} {k : α → Prop} {t : Tag k} (h : o = o') : WK o k t = WK o' k t := by rw [h]
/-- What must hold here, and what comes next. -/
def Req (p q : Prop) : Prop := p ∧ q
theorem Req.intro {p q : Prop} (h : p) (k : q) : Req p q := ⟨h, k⟩
theorem Req_true {q : Prop} : Req True q = q := by simp [Req]
theorem Req_and {p p' q : Prop} : Req (p ∧ p') q = Req p (Req p' q) := by simp [Req, and_assoc]
/-- A test. -/
def ifB (c : Bool) (p q : Prop) (t : Tag (p, q)) : Prop := if c = true then p else q
theorem ifB.intro {c : Bool} {p q : Prop} {t : Tag (p, q)} (h : c = true → p) (k : c = false → q) : ifB c p q t := by cases c <;> simp [ifB] at * <;> assumption
theorem ifB.yes {c : Bool} {p q : Prop} {t : Tag (p, q)} (hc : c = true) (h : p) : ifB c p q t := by subst hc; exact h
theorem ifB.no {c : Bool} {p q : Prop} {t : Tag (p, q)} (hc : c = false) (h : q) : ifB c p q t := by subst hc; exact h
theorem ifB_true {p q : Prop} {t : Tag (p, q)} : ifB true p q t = p := nr rfl
theorem ifB_false {p q : Prop} {t : Tag (p, q)} : ifB false p q t = q := nr rfl
theorem ifB_not {c : Bool} {p q : Prop} {t : Tag (p, q)} : ifB (!c) p q t = ifB c q p ⟨⟩ := by cases c <;> rfl
@[congr] theorem ifB_congr {c c' : Bool} {p q : Prop} {t : Tag (p, q)} (h : c = c') : ifB c p q t = ifB c' p q t := by rw [h]

@[congr] theorem wpC_st {c : AC} {st st' : St} (h : st = st') : wpC X c Q st = wpC X c Q st' := by rw [h]
@[congr] theorem wpL_st {l : List AOp} {st st' : St} (h : st = st') : wpL X l K st = wpL X l K st' := by rw [h]
@[congr] theorem wpLD_st {l : List AOp} {st st' : St} (h : st = st') : wpLD X l K st = wpLD X l K st' := by rw [h]
@[congr] theorem W_congr {α : Type} {o o' : Option α} {k : α → Prop} (h : o = o') : W o k = W o' k := by rw [h]
/-- A call, as it stands. -/
def CallA (X : Sem3) (f v : Nat) (args : List V) (k : V → Prop) (t : Tag k) : Prop := args.all noH = true ∧ ∃ Q0, X f v args [] 0 Q0 ∧ ∀ r h n, Q0 r h n → noH r = true ∧ k r
def CallD (X : Sem3) (f v : Nat) (args : List V) (k : V → Prop) (t : Tag k) : Prop := args.all noH = true ∧ ∃ r Q0, X f v args [] 0 Q0 ∧ (∀ r' h n, Q0 r' h n → r' = r) ∧ noH r = true ∧ k r
@[congr] theorem CallA_congr {f v : Nat} {args args' : List V} {k : V → Prop} {t : Tag k} (h : args = args') : CallA X f v args k t = CallA X f v args' k t := by rw [h]
@[congr] theorem CallD_congr {f v : Nat} {args args' : List V} {k : V → Prop} {t : Tag k} (h : args = args') : CallD X f v args k t = CallD X f v args' k t := by rw [h]
theorem CallA.eq {f v : Nat} {args : List V} {k : V → Prop} {t : Tag k} {r : V} (ha : args.all noH = true) (h : X f v args [] 0 (fun r' _ _ => r' = r)) (hr : noH r = true) (hk : k r) : CallA X f v args k t :=
  ⟨ha, _, h, fun r' h n e => by subst e; exact ⟨hr, hk⟩⟩
theorem CallD.eq {f v : Nat} {args : List V} {k : V → Prop} {t : Tag k} {r : V} (ha : args.all noH = true) (h : X f v args [] 0 (fun r' _ _ => r' = r)) (hr : noH r = true) (hk : k r) : CallD X f v args k t :=
  ⟨ha, r, _, h, fun r' h n e => e, hr, hk⟩
/-- A result that is one of many. -/
theorem CallA.any {f v : Nat} {args : List V} {k : V → Prop} {t : Tag k} {R : V → Prop} (ha : args.all noH = true) (h : X f v args [] 0 (fun r' _ _ => R r')) (hk : ∀ r, R r → noH r = true ∧ k r) : CallA X f v args k t :=
  ⟨ha, _, h, fun r' h n e => hk r' e⟩

/-- A call that works on the blocks. -/
def CallH (X : Sem3) (v : Nat) (x : V) (args : List V) (hp : Heap) (n : Nat) (k : V → Heap → Nat → Prop) (t : Tag k) : Prop := match x with | .fn f cap => ∃ Q0, X f v (args ++ cap.map clr) hp n Q0 ∧ ∀ r h n, Q0 r h n → k r h n | _ => False
def CallHD (X : Sem3) (v : Nat) (x : V) (args : List V) (hp : Heap) (n : Nat) (k : V → Heap → Nat → Prop) (t : Tag k) : Prop := match x with | .fn f cap => ∃ r h m Q0, X f v (args ++ cap.map clr) hp n Q0 ∧ (∀ r' h' n', Q0 r' h' n' → r' = r ∧ h' = h ∧ n' = m) ∧ k r h m | _ => False
@[congr] theorem CallH_congr {v : Nat} {x x' : V} {args args' : List V} {hp hp' : Heap} {n : Nat} {k : V → Heap → Nat → Prop} {t : Tag k} (h : args = args') (h2 : x = x') (h3 : hp = hp') : CallH X v x args hp n k t = CallH X v x' args' hp' n k t := by rw [h, h2, h3]
@[congr] theorem CallHD_congr {v : Nat} {x x' : V} {args args' : List V} {hp hp' : Heap} {n : Nat} {k : V → Heap → Nat → Prop} {t : Tag k} (h : args = args') (h2 : x = x') (h3 : hp = hp') : CallHD X v x args hp n k t = CallHD X v x' args' hp' n k t := by rw [h, h2, h3]
theorem CallH.eq {f v : Nat} {cap args : List V} {hp h : Heap} {n m : Nat} {k : V → Heap → Nat → Prop} {t : Tag k} {r : V} (hX : X f v (args ++ cap.map clr) hp n (fun r' h' n' => r' = r ∧ h' = h ∧ n' = m)) (hk : k r h m) : CallH X v (.fn f cap) args hp n k t := ⟨_, hX, fun r' h' n' e => by obtain ⟨rfl, rfl, rfl⟩ := e; exact hk⟩
theorem CallHD.eq {f v : Nat} {cap args : List V} {hp h : Heap} {n m : Nat} {k : V → Heap → Nat → Prop} {t : Tag k} {r : V} (hX : X f v (args ++ cap.map clr) hp n (fun r' h' n' => r' = r ∧ h' = h ∧ n' = m)) (hk : k r h m) : CallHD X v (.fn f cap) args hp n k t := ⟨r, h, m, _, hX, fun r' h' n' e => e, hk⟩
theorem CallH.any {f v : Nat} {cap args : List V} {hp : Heap} {n : Nat} {k : V → Heap → Nat → Prop} {t : Tag k} {R : V → Heap → Nat → Prop} (hX : X f v (args ++ cap.map clr) hp n R) (hk : ∀ r h m, R r h m → k r h m) : CallH X v (.fn f cap) args hp n k t := ⟨_, hX, hk⟩
def getJ : List (Nat × V) → Nat → V
  | [], _ => .junk
  | (a, x) :: r, k => if k = a then x else getJ r k
theorem getJ_eq : ∀ (l : List (Nat × V)) (k : Nat), (get l k).getD .junk = getJ l k
  | [], _ => rfl
  | (a, x) :: r, k => by
    simp only [get, getJ]
    split
    · rfl
    · exact getJ_eq r k
def getB : List (Nat × (Nat × List V)) → Nat → Nat × List V
  | [], _ => (0, [])
  | (a, x) :: r, k => if k = a then x else getB r k
def evE (env : List (Nat × V)) : Opd → V
  | .t n => clr (getJ env n)
  | .m n => getJ env n
  | .c x => x
def evsE (env : List (Nat × V)) : List Opd → List V
  | [] => []
  | x :: r => evE env x :: evsE env r
/-- Slots after operands have been moved out. -/
def mvE (env : List (Nat × V)) : List Opd → List (Nat × V) → List (Nat × V)
  | [], e => e
  | .m n :: r, e => mvE env r (match get env n with | some x => set e n (clr x) | none => e)
  | _ :: r, e => mvE env r e
def putE (env : List (Nat × V)) : Option Nat → V → List (Nat × V)
  | none, _ => env
  | some d, x => set env d x

theorem ev_eq (env : List (Nat × V)) (loc : List (Nat × (Nat × List V))) (h : Heap) (n : Nat) (x : Opd) : St.ev ⟨env, loc, h, n⟩ x = evE env x := by cases x <;> simp [St.ev, evE, getJ_eq]
theorem evs_eq (env : List (Nat × V)) (loc : List (Nat × (Nat × List V))) (h : Heap) (n : Nat) : ∀ l : List Opd, l.map (St.ev ⟨env, loc, h, n⟩) = evsE env l
  | [] => rfl
  | x :: r => by rw [List.map_cons, ev_eq, evs_eq env loc h n r]; rfl
theorem sets_moves (env : List (Nat × V)) (loc : List (Nat × (Nat × List V))) (h : Heap) (n : Nat) : ∀ (l : List Opd) (e : List (Nat × V)), sets e (St.moves ⟨env, loc, h, n⟩ l) = mvE env l e
  | [], e => rfl
  | .t k :: r, e => sets_moves env loc h n r e
  | .c k :: r, e => sets_moves env loc h n r e
  | .m k :: r, e => by
    simp only [St.moves, mvE]
    cases get env k with
    | none => exact sets_moves env loc h n r e
    | some x => exact sets_moves env loc h n r (set e k (clr x))
theorem sets_app {α : Type} (r a b : List (Nat × α)) : sets r (a ++ b) = sets (sets r a) b := by simp [sets, List.foldl_append]
theorem sets_dst (env : List (Nat × V)) (d : Option Nat) (x : V) : sets env (dstw d x) = putE env d x := by cases d <;> rfl
theorem app_mv (env : List (Nat × V)) (loc : List (Nat × (Nat × List V))) (h : Heap) (n : Nat) (l : List Opd) (d : Option Nat) (x : V) : St.app ⟨env, loc, h, n⟩ ⟨St.moves ⟨env, loc, h, n⟩ l ++ dstw d x, [], 0, none⟩ = ⟨putE (mvE env l env) d x, loc, h, n⟩ := by
  simp only [St.app, sets_app, sets_moves, sets_dst]; rfl

variable {env : List (Nat × V)} {loc : List (Nat × (Nat × List V))} {h : Heap} {n : Nat} {d : Option Nat} {g : Option (Nat × Bool)} {r : List AOp}

theorem W_map {α β : Type} (o : Option α) (f : α → β) (k : β → Prop) : W (o.map f) k = W o fun a => k (f a) := by cases o <;> rfl
theorem W_bind {α β : Type} (o : Option α) (f : α → Option β) (k : β → Prop) : W (o.bind f) k = W o fun a => W (f a) k := by cases o <;> rfl
theorem W_some {α : Type} (a : α) (k : α → Prop) : W (some a) k = k a := nr rfl
theorem W_none {α : Type} (k : α → Prop) : W none k = False := nr rfl
theorem W_ite {α : Type} (p : Prop) [Decidable p] (o : Option α) (k : α → Prop) : W (if p then o else none) k = Req p (W o k) := by
  by_cases h : p
  · rw [if_pos h]; simp [h, Req]
  · rw [if_neg h]; simp [h, W, Req]
theorem WK_map {α β : Type} (o : Option α) (f : α → β) (k : β → Prop) (t : Tag k) : WK (o.map f) k t = WK o (fun a => k (f a)) ⟨⟩ := W_map o f k
theorem WK_bind {α β : Type} (o : Option α) (f : α → Option β) (k : β → Prop) (t : Tag k) : WK (o.bind f) k t = WK o (fun a => WK (f a) k t) ⟨⟩ := W_bind o f k
theorem WK_some {α : Type} (a : α) (k : α → Prop) (t : Tag k) : WK (some a) k t = k a := nr rfl
theorem WK_none {α : Type} (k : α → Prop) (t : Tag k) : WK none k t = False := nr rfl
theorem WK_ite {α : Type} (p : Prop) [Decidable p] (o : Option α) (k : α → Prop) (t : Tag k) : WK (if p then o else none) k t = Req p (WK o k t) := W_ite p o k
theorem WK.intro {α : Type} {o : Option α} {x : α} {k : α → Prop} {t : Tag k} (h : o = some x) (hk : k x) : WK o k t := by rw [h]; exact hk
theorem WK.idx {α : Type} {l : List α} {i : Nat} {k : α → Prop} {t : Tag k} (h : i < l.length) (hk : ∀ x, l[i]? = some x → k x) : WK l[i]? k t := by
  unfold WK
  rw [List.getElem?_eq_getElem h]; exact hk _ (List.getElem?_eq_getElem h)

/-- One operation; then the next. -/
def opP (X : Sem3) (d : Option Nat) (k : AK) (next : St → Prop) (st : St) : Prop := wpO X ⟨d, none, k⟩ next st
def opD (X : Sem3) (d : Option Nat) (k : AK) (next : St → Prop) (st : St) : Prop := wpOD X ⟨d, none, k⟩ next st
@[congr] theorem opP_st {k : AK} {next : St → Prop} {st st' : St} (h : st = st') : opP X d k next st = opP X d k next st' := by rw [h]
@[congr] theorem opD_st {k : AK} {next : St → Prop} {st st' : St} (h : st = st') : opD X d k next st = opD X d k next st' := by rw [h]
/-- A test of what a slot holds. -/
def tst (x : V) (b : Bool) (p q : Prop) (t : Tag (p, q)) : Prop := match x with | .bool c => if (c == b) = true then p else q | .tup [] => q | _ => False
@[congr] theorem tst_congr {x x' : V} {b : Bool} {p q : Prop} {t : Tag (p, q)} (h : x = x') : tst x b p q t = tst x' b p q t := by rw [h]
theorem tst_t {c : Bool} {p q : Prop} {t : Tag (p, q)} : tst (.bool c) true p q t = ifB c p q t := by cases c <;> rfl
theorem tst_u {b : Bool} {p q : Prop} {t : Tag (p, q)} : tst (.tup []) b p q t = q := rfl
theorem tst_f {c : Bool} {p q : Prop} {t : Tag (p, q)} : tst (.bool c) false p q t = ifB c q p ⟨⟩ := by cases c <;> rfl

theorem L_nil {st : St} : wpL X [] K st = K st := nr rfl
theorem L_none {k : AK} {st : St} : wpL X (⟨d, none, k⟩ :: r) K st = opP X d k (wpL X r K) st := nr rfl
theorem L_some {k : AK} {s : Nat} {b : Bool} : wpL X (⟨d, some (s, b), k⟩ :: r) K ⟨env, loc, h, n⟩ = tst (getJ env s) b (opP X d k (wpL X r K) ⟨env, loc, h, n⟩) (wpL X r K ⟨putE env d (.tup []), loc, h, n⟩) ⟨⟩ := by
  simp only [wpL, wantedA, ← getJ_eq, tst]
  cases hg : get env s with
  | none => rfl
  | some x =>
    cases x <;> first | rfl | skip
    · rename_i c
      simp only [Option.getD_some, W]
      cases c <;> cases b <;> first | rfl | skip
      all_goals
        simp only [St.app, sets_dst]
        simp [opP, wpO, sets]
    · rename_i vs
      cases vs <;> first | rfl | skip
      simp only [Option.getD_some, W, Bool.false_eq_true, if_false, St.app, sets_dst]
      rfl
theorem D_nil {st : St} : wpLD X [] K st = K st := nr rfl
theorem D_none {k : AK} {st : St} : wpLD X (⟨d, none, k⟩ :: r) K st = opD X d k (wpLD X r K) st := nr rfl
theorem D_some {k : AK} {s : Nat} {b : Bool} : wpLD X (⟨d, some (s, b), k⟩ :: r) K ⟨env, loc, h, n⟩ = tst (getJ env s) b (opD X d k (wpLD X r K) ⟨env, loc, h, n⟩) (wpLD X r K ⟨putE env d (.tup []), loc, h, n⟩) ⟨⟩ := by
  simp only [wpLD, wantedA, ← getJ_eq, tst]
  cases hg : get env s with
  | none => rfl
  | some x =>
    cases x <;> first | rfl | skip
    · rename_i c
      simp only [Option.getD_some, W]
      cases c <;> cases b <;> first | rfl | skip
      all_goals
        simp only [St.app, sets_dst]
        simp [opD, wpOD, sets]
    · rename_i vs
      cases vs <;> first | rfl | skip
      simp only [Option.getD_some, W, Bool.false_eq_true, if_false, St.app, sets_dst]
      rfl
theorem P_p {f : PK} {args : List Opd} {next : St → Prop} : opP X d (.p f args) next ⟨env, loc, h, n⟩ = WK (pf f (evsE env args)) (fun y => next ⟨putE (mvE env args env) d y, loc, h, n⟩) ⟨⟩ := by
  simp only [opP, wpO, eff, W_map, evs_eq, app_mv]
  rfl
theorem D_p {f : PK} {args : List Opd} {next : St → Prop} : opD X d (.p f args) next ⟨env, loc, h, n⟩ = WK (pf f (evsE env args)) (fun y => next ⟨putE (mvE env args env) d y, loc, h, n⟩) ⟨⟩ := by
  simp only [opD, wpOD, eff, W_map, evs_eq, app_mv]
  rfl
theorem P_a {f : AF} {args : List Opd} {next : St → Prop} : opP X d (.a f args) next ⟨env, loc, h, n⟩ = WK (af f (evsE env args)) (fun y => next ⟨putE (mvE env args env) d y, loc, h, n⟩) ⟨⟩ := by
  simp only [opP, wpO, eff, W_map, evs_eq, app_mv]
  rfl
theorem D_a {f : AF} {args : List Opd} {next : St → Prop} : opD X d (.a f args) next ⟨env, loc, h, n⟩ = WK (af f (evsE env args)) (fun y => next ⟨putE (mvE env args env) d y, loc, h, n⟩) ⟨⟩ := by
  simp only [opD, wpOD, eff, W_map, evs_eq, app_mv]
  rfl
theorem P_call {f v : Nat} {args : List Opd} {next : St → Prop} : opP X d (.call f v args) next ⟨env, loc, h, n⟩ = CallA X f v (evsE env args) (fun y => next ⟨putE (mvE env args env) d y, loc, h, n⟩) ⟨⟩ := by
  simp only [opP, wpO, CallA, evs_eq, app_mv]
theorem D_call {f v : Nat} {args : List Opd} {next : St → Prop} : opD X d (.call f v args) next ⟨env, loc, h, n⟩ = CallD X f v (evsE env args) (fun y => next ⟨putE (mvE env args env) d y, loc, h, n⟩) ⟨⟩ := by
  simp only [opD, wpOD, CallD, evs_eq, app_mv]
def exW (x : V) (p : Prop) (t : Tag p) : Prop := match x with | .tup _ => False | _ => p
@[congr] theorem exW_congr {x x' : V} {p : Prop} {t : Tag p} (h : x = x') : exW x p t = exW x' p t := by rw [h]
def exV (env : List (Nat × V)) (s i : Nat) (d : Option Nat) (x : V) (k : List (Nat × V) → Prop) (t : Tag k) : Prop := match x with
  | .tup vs => WK vs[i]? (fun y => exW y (k (putE (set env s (.tup (vs.set i .junk))) d y)) ⟨⟩) ⟨⟩
  | _ => False
@[congr] theorem exV_congr {s i : Nat} {x x' : V} {k : List (Nat × V) → Prop} {t : Tag k} (h : x = x') : exV env s i d x k t = exV env s i d x' k t := by rw [h]
theorem exV_tup {s i : Nat} {vs : List V} {k : List (Nat × V) → Prop} {t : Tag k} : exV env s i d (.tup vs) k t = WK vs[i]? (fun y => exW y (k (putE (set env s (.tup (vs.set i .junk))) d y)) ⟨⟩) ⟨⟩ := nr rfl
theorem exW_bool {b : Bool} {p : Prop} {t : Tag p} : exW (.bool b) p t = p := nr rfl
theorem exW_int {k : IntKind} {n : Int} {p : Prop} {t : Tag p} : exW (.int k n) p t = p := nr rfl
theorem exW_str {s : List UInt8} {p : Prop} {t : Tag p} : exW (.str s) p t = p := nr rfl
theorem exW_agg {s : List V} {p : Prop} {t : Tag p} : exW (.agg s) p t = p := nr rfl
theorem exW_sl {o : Bool} {z : Nat} {s : List V} {p : Prop} {t : Tag p} : exW (.sl o z s) p t = p := nr rfl
theorem exW_nili {p : Prop} {t : Tag p} : exW .nili p t = p := nr rfl
theorem exW_nilp {p : Prop} {t : Tag p} : exW .nilp p t = p := nr rfl
theorem exW_nilm {p : Prop} {t : Tag p} : exW .nilm p t = p := nr rfl
theorem exW_iface {u : TypeId} {x : V} {p : Prop} {t : Tag p} : exW (.iface u x) p t = p := nr rfl
theorem exW_hm {b : Nat} {p : Prop} {t : Tag p} : exW (.hm b) p t = p := nr rfl
theorem exW_hs {b z o m : Nat} {p : Prop} {t : Tag p} : exW (.hs b z o m) p t = p := nr rfl
def boxW (y : V) (k : List V → Prop) : Prop := Req (solid y = true ∧ y.cells.all okCell = true) (k y.cells)
@[congr] theorem boxW_congr {y y' : V} {k : List V → Prop} (h : y = y') : boxW y k = boxW y' k := by rw [h]
def ldF (b' : Nat) (cs : List V) (nn : Option Nat) (x : V) (k : V → Prop) : Prop := match x with | .ptr b _ i off => Req (b = b' ∧ i = 0) (WK (part cs off nn) (fun y => k (clr y)) ⟨⟩) | _ => False
@[congr] theorem ldF_congr {b' : Nat} {cs : List V} {nn : Option Nat} {x x' : V} {k : V → Prop} (h : x = x') : ldF b' cs nn x k = ldF b' cs nn x' k := by rw [h]
theorem ldF_ptr {b b' z i off : Nat} {cs : List V} {nn : Option Nat} {k : V → Prop} : ldF b' cs nn (.ptr b z i off) k = Req (b = b' ∧ i = 0) (WK (part cs off nn) (fun y => k (clr y)) ⟨⟩) := nr rfl
def ldT (b' : Nat) (cs : List V) (x : V) (k : V → List V → Prop) : Prop := match x with | .ptr b _ i off => Req (b = b' ∧ i = 0) (WK cs[off]? (fun c => Req (okCell c = true) (k c (cs.set off (clr1 c)))) ⟨⟩) | _ => False
@[congr] theorem ldT_congr {b' : Nat} {cs : List V} {x x' : V} {k : V → List V → Prop} (h : x = x') : ldT b' cs x k = ldT b' cs x' k := by rw [h]
theorem ldT_ptr {b b' z i off : Nat} {cs : List V} {k : V → List V → Prop} : ldT b' cs (.ptr b z i off) k = Req (b = b' ∧ i = 0) (WK cs[off]? (fun c => Req (okCell c = true) (k c (cs.set off (clr1 c)))) ⟨⟩) := nr rfl
def stF (b' : Nat) (cs : List V) (n : Nat) (x y : V) (k : List V → Prop) : Prop := match x with | .ptr b _ i off => Req (b = b' ∧ i = 0 ∧ y.cells.length = n ∧ off + n ≤ cs.length ∧ solid y = true ∧ y.cells.all okCell = true) (k (cs.take off ++ y.cells ++ cs.drop (off + n))) | _ => False
@[congr] theorem stF_congr {b' n : Nat} {cs : List V} {x x' y y' : V} {k : List V → Prop} (h : x = x') (h2 : y = y') : stF b' cs n x y k = stF b' cs n x' y' k := by rw [h, h2]
theorem stF_ptr {b b' z i off n : Nat} {cs : List V} {y : V} {k : List V → Prop} : stF b' cs n (.ptr b z i off) y k = Req (b = b' ∧ i = 0 ∧ y.cells.length = n ∧ off + n ≤ cs.length ∧ solid y = true ∧ y.cells.all okCell = true) (k (cs.take off ++ y.cells ++ cs.drop (off + n))) := nr rfl
theorem P_extr {s i : Nat} {next : St → Prop} : opP X d (.extr s i) next ⟨env, loc, h, n⟩ = exV env s i d (getJ env s) (fun e => next ⟨e, loc, h, n⟩) ⟨⟩ := by
  simp only [opP, wpO, eff, exV, ← getJ_eq]
  cases get env s with
  | none => rfl
  | some x =>
    cases x <;> first | rfl | skip
    rename_i vs
    simp only [Option.getD_some]
    cases vs[i]? with
    | none => rfl
    | some y => cases y <;> first | rfl | (simp only [Option.bind_some, W, WK, exW, St.app, sets, List.foldl_cons]; rw [← sets_dst]; rfl)
theorem D_extr {s i : Nat} {next : St → Prop} : opD X d (.extr s i) next ⟨env, loc, h, n⟩ = exV env s i d (getJ env s) (fun e => next ⟨e, loc, h, n⟩) ⟨⟩ := by
  simp only [opD, wpOD, eff, exV, ← getJ_eq]
  cases get env s with
  | none => rfl
  | some x =>
    cases x <;> first | rfl | skip
    rename_i vs
    simp only [Option.getD_some]
    cases vs[i]? with
    | none => rfl
    | some y => cases y <;> first | rfl | (simp only [Option.bind_some, W, WK, exW, St.app, sets, List.foldl_cons]; rw [← sets_dst]; rfl)
theorem P_box {s : Nat} {x : Opd} {next : St → Prop} : opP X d (.box s x) next ⟨env, loc, h, n⟩ = boxW (evE env x) fun cs => next ⟨putE (mvE env [x] env) d (.ptr n cs.length 0 0), set loc s (n, cs), h, n + 1⟩ := by
  simp only [opP, wpO, eff, ev_eq, boxW]
  rw [W_ite]
  simp only [W_some, St.app, sets_app, sets_moves, sets_dst]
  rfl
theorem D_box {s : Nat} {x : Opd} {next : St → Prop} : opD X d (.box s x) next ⟨env, loc, h, n⟩ = boxW (evE env x) fun cs => next ⟨putE (mvE env [x] env) d (.ptr n cs.length 0 0), set loc s (n, cs), h, n + 1⟩ := by
  simp only [opD, wpOD, eff, ev_eq, boxW]
  rw [W_ite]
  simp only [W_some, St.app, sets_app, sets_moves, sets_dst]
  rfl
theorem P_ldF {s : Nat} {p : Opd} {nn : Option Nat} {next : St → Prop} : opP X d (.loadL s p nn false) next ⟨env, loc, h, n⟩ = WK (get loc s) (fun q => ldF q.1 q.2 nn (evE env p) fun y => next ⟨putE env d y, loc, h, n⟩) ⟨⟩ := by
  simp only [opP, wpO, eff, ev_eq]
  cases get loc s with
  | none => cases evE env p <;> rfl
  | some q =>
    simp only [WK, W_some]
    cases evE env p <;> first | rfl | skip
    simp only [ldF, WK]
    rw [W_ite, W_map]
    simp only [St.app, sets_dst]
    rfl
theorem D_ldF {s : Nat} {p : Opd} {nn : Option Nat} {next : St → Prop} : opD X d (.loadL s p nn false) next ⟨env, loc, h, n⟩ = WK (get loc s) (fun q => ldF q.1 q.2 nn (evE env p) fun y => next ⟨putE env d y, loc, h, n⟩) ⟨⟩ := by
  simp only [opD, wpOD, eff, ev_eq]
  cases get loc s with
  | none => cases evE env p <;> rfl
  | some q =>
    simp only [WK, W_some]
    cases evE env p <;> first | rfl | skip
    simp only [ldF, WK]
    rw [W_ite, W_map]
    simp only [St.app, sets_dst]
    rfl
theorem P_ldT {s : Nat} {p : Opd} {next : St → Prop} : opP X d (.loadL s p none true) next ⟨env, loc, h, n⟩ = WK (get loc s) (fun q => ldT q.1 q.2 (evE env p) fun y cs => next ⟨putE env d y, set loc s (q.1, cs), h, n⟩) ⟨⟩ := by
  simp only [opP, wpO, eff, ev_eq]
  cases get loc s with
  | none => cases evE env p <;> rfl
  | some q =>
    simp only [WK, W_some]
    cases evE env p <;> first | rfl | skip
    simp only [ldT, WK]
    rw [W_ite, W_bind]
    simp only [W_ite, W_some, St.app, sets_dst]
    rfl
theorem D_ldT {s : Nat} {p : Opd} {next : St → Prop} : opD X d (.loadL s p none true) next ⟨env, loc, h, n⟩ = WK (get loc s) (fun q => ldT q.1 q.2 (evE env p) fun y cs => next ⟨putE env d y, set loc s (q.1, cs), h, n⟩) ⟨⟩ := by
  simp only [opD, wpOD, eff, ev_eq]
  cases get loc s with
  | none => cases evE env p <;> rfl
  | some q =>
    simp only [WK, W_some]
    cases evE env p <;> first | rfl | skip
    simp only [ldT, WK]
    rw [W_ite, W_bind]
    simp only [W_ite, W_some, St.app, sets_dst]
    rfl
theorem P_st {s m : Nat} {p x : Opd} {next : St → Prop} : opP X d (.storeL s m p x) next ⟨env, loc, h, n⟩ = WK (get loc s) (fun q => stF q.1 q.2 m (evE env p) (evE env x) fun cs => next ⟨putE (mvE env [x] env) d .junk, set loc s (q.1, cs), h, n⟩) ⟨⟩ := by
  simp only [opP, wpO, eff, ev_eq]
  cases get loc s with
  | none => cases evE env p <;> rfl
  | some q =>
    simp only [WK, W_some]
    cases evE env p <;> first | rfl | skip
    simp only [stF]
    rw [W_ite]
    simp only [W_some, St.app, sets_app, sets_moves, sets_dst]
    rfl
theorem D_st {s m : Nat} {p x : Opd} {next : St → Prop} : opD X d (.storeL s m p x) next ⟨env, loc, h, n⟩ = WK (get loc s) (fun q => stF q.1 q.2 m (evE env p) (evE env x) fun cs => next ⟨putE (mvE env [x] env) d .junk, set loc s (q.1, cs), h, n⟩) ⟨⟩ := by
  simp only [opD, wpOD, eff, ev_eq]
  cases get loc s with
  | none => cases evE env p <;> rfl
  | some q =>
    simp only [WK, W_some]
    cases evE env p <;> first | rfl | skip
    simp only [stF]
    rw [W_ite]
    simp only [W_some, St.app, sets_app, sets_moves, sets_dst]
    rfl
theorem P_h {f : HK} {args : List Opd} {next : St → Prop} : opP X d (.h f args) next ⟨env, loc, h, n⟩ = WK (hf f (evsE env args) h n) (fun q => next ⟨putE (mvE env args env) d q.1, loc, q.2.1, n + q.2.2⟩) ⟨⟩ := by
  simp only [opP, wpO, eff, W_map, evs_eq, WK, St.app, sets_app, sets_moves, sets_dst, Option.getD_some]
  rfl
theorem D_h {f : HK} {args : List Opd} {next : St → Prop} : opD X d (.h f args) next ⟨env, loc, h, n⟩ = WK (hf f (evsE env args) h n) (fun q => next ⟨putE (mvE env args env) d q.1, loc, q.2.1, n + q.2.2⟩) ⟨⟩ := by
  simp only [opD, wpOD, eff, W_map, evs_eq, WK, St.app, sets_app, sets_moves, sets_dst, Option.getD_some]
  rfl
theorem P_callH {v : Nat} {x : Opd} {args : List Opd} {next : St → Prop} : opP X d (.callH v x args) next ⟨env, loc, h, n⟩ = CallH X v (evE env x) (evsE env args) h n (fun r h' m => next ⟨putE (mvE env args env) d r, loc, h', n + (m - n)⟩) ⟨⟩ := by
  simp only [opP, wpO, CallH, evs_eq, ev_eq, St.app, sets_app, sets_moves, sets_dst, Option.getD_some]
  rfl
theorem D_callH {v : Nat} {x : Opd} {args : List Opd} {next : St → Prop} : opD X d (.callH v x args) next ⟨env, loc, h, n⟩ = CallHD X v (evE env x) (evsE env args) h n (fun r h' m => next ⟨putE (mvE env args env) d r, loc, h', n + (m - n)⟩) ⟨⟩ := by
  simp only [opD, wpOD, CallHD, evs_eq, ev_eq, St.app, sets_app, sets_moves, sets_dst, Option.getD_some]
  rfl

/-! ### Code -/
def seqQ (X : Sem3) (b : AC) (Q : AE → St → Prop) (e : AE) (st : St) : Prop := match e with | .normal => wpC X b Q st | e => Q e st
def cutQ (ke kl : List Nat) (Q : AE → St → Prop) (e : AE) (st : St) : Prop := match e with | .normal => Q .normal (st.norm ke kl) | e => Q e st
def blkQ (id : Nat) (Q : AE → St → Prop) (e : AE) (st : St) : Prop := match e with | .exit i => if i = id then Q .normal st else Q (.exit i) st | e => Q e st
def loopQ (L : St → Prop) (ke kl : List Nat) (Q : AE → St → Prop) (e : AE) (st : St) : Prop := match e with | .normal => L (st.norm ke kl) | e => Q e st
@[congr] theorem seqQ_st {b : AC} {e : AE} {st st' : St} (h : st = st') : seqQ X b Q e st = seqQ X b Q e st' := by rw [h]
@[congr] theorem cutQ_st {ke kl : List Nat} {e : AE} {st st' : St} (h : st = st') : cutQ ke kl Q e st = cutQ ke kl Q e st' := by rw [h]
@[congr] theorem blkQ_st {id : Nat} {e : AE} {st st' : St} (h : st = st') : blkQ id Q e st = blkQ id Q e st' := by rw [h]
@[congr] theorem loopQ_st {L : St → Prop} {ke kl : List Nat} {e : AE} {st st' : St} (h : st = st') : loopQ L ke kl Q e st = loopQ L ke kl Q e st' := by rw [h]
theorem seqQ_n {b : AC} {st : St} : seqQ X b Q .normal st = wpC X b Q st := nr rfl
theorem seqQ_x {b : AC} {i : Nat} {st : St} : seqQ X b Q (.exit i) st = Q (.exit i) st := nr rfl
theorem seqQ_r {b : AC} {st : St} : seqQ X b Q .ret st = Q .ret st := nr rfl
theorem cutQ_n {ke kl : List Nat} : cutQ ke kl Q .normal ⟨env, loc, h, n⟩ = Q .normal ⟨keep ke env, keep kl loc, h, n⟩ := nr rfl
theorem cutQ_x {ke kl : List Nat} {i : Nat} {st : St} : cutQ ke kl Q (.exit i) st = Q (.exit i) st := nr rfl
theorem cutQ_r {ke kl : List Nat} {st : St} : cutQ ke kl Q .ret st = Q .ret st := nr rfl
theorem blkQ_n {id : Nat} {st : St} : blkQ id Q .normal st = Q .normal st := nr rfl
theorem blkQ_x {id i : Nat} {st : St} : blkQ id Q (.exit i) st = if i = id then Q .normal st else Q (.exit i) st := nr rfl
theorem blkQ_r {id : Nat} {st : St} : blkQ id Q .ret st = Q .ret st := nr rfl
theorem loopQ_n {L : St → Prop} {ke kl : List Nat} : loopQ L ke kl Q .normal ⟨env, loc, h, n⟩ = L ⟨keep ke env, keep kl loc, h, n⟩ := nr rfl
theorem loopQ_x {L : St → Prop} {ke kl : List Nat} {i : Nat} {st : St} : loopQ L ke kl Q (.exit i) st = Q (.exit i) st := nr rfl
theorem loopQ_r {L : St → Prop} {ke kl : List Nat} {st : St} : loopQ L ke kl Q .ret st = Q .ret st := nr rfl
theorem C_skip {st : St} : wpC X .skip Q st = Q .normal st := nr rfl
theorem C_ret {st : St} : wpC X .ret Q st = Q .ret st := nr rfl
theorem C_exit {i : Nat} {st : St} : wpC X (.exit i) Q st = Q (.exit i) st := nr rfl
theorem C_reg {l : List AOp} {st : St} : wpC X (.reg false l) Q st = wpL X l (Q .normal) st := nr rfl
theorem C_regD {l : List AOp} {st : St} : wpC X (.reg true l) Q st = wpLD X l (Q .normal) st := nr rfl
theorem C_seq {a b : AC} {st : St} : wpC X (.seq a b) Q st = wpC X a (seqQ X b Q) st := nr rfl
theorem C_cut {ke kl : List Nat} {a : AC} {st : St} : wpC X (.cut ke kl a) Q st = wpC X a (cutQ ke kl Q) st := nr rfl
theorem C_block {i : Nat} {a : AC} {st : St} : wpC X (.block i a) Q st = wpC X a (blkQ i Q) st := nr rfl
def cndW (x : V) (p q : Prop) (t : Tag (p, q)) : Prop := match x with | .bool c => ifB c p q t | _ => False
@[congr] theorem cndW_congr {x x' : V} {p q : Prop} {t : Tag (p, q)} (h : x = x') : cndW x p q t = cndW x' p q t := by rw [h]
theorem cndW_bool {c : Bool} {p q : Prop} {t : Tag (p, q)} : cndW (.bool c) p q t = ifB c p q t := nr rfl
theorem C_cond {x : Opd} {a b : AC} : wpC X (.cond x a b) Q ⟨env, loc, h, n⟩ = cndW (evE env x) (wpC X a Q ⟨env, loc, h, n⟩) (wpC X b Q ⟨env, loc, h, n⟩) ⟨⟩ := by
  simp only [wpC, ev_eq]
  cases evE env x <;> rfl
theorem loop_intro {ke kl : List Nat} {c : AC} (hh : ∀ L : St → Prop, (∀ st, wpC X c (loopQ L ke kl Q) st → L st) → L ⟨keep ke env, keep kl loc, h, n⟩) : wpC X (.loop ke kl c) Q ⟨env, loc, h, n⟩ := fun L hL => hh L hL

/-- A function's ending. -/
def endQ (res : List ARes) (Q : V → Heap → Nat → Prop) (e : AE) (st : St) : Prop := match e with | .normal | .ret => W (resL st res) fun rs => Q (outV rs) st.heap st.ctr | _ => False
@[congr] theorem endQ_st {res : List ARes} {Q : V → Heap → Nat → Prop} {e : AE} {st st' : St} (h : st = st') : endQ res Q e st = endQ res Q e st' := by rw [h]
def ldR (b' : Nat) (cs : List V) (nn : Option Nat) (x : V) (k : V → Prop) : Prop := match x with | .ptr b _ 0 0 => Req (b = b') (WK (part cs 0 nn) (fun y => k (clr y)) ⟨⟩) | _ => False
@[congr] theorem ldR_congr {b' : Nat} {cs : List V} {nn : Option Nat} {x x' : V} {k : V → Prop} (h : x = x') : ldR b' cs nn x k = ldR b' cs nn x' k := by rw [h]
theorem ldR_ptr {b b' z : Nat} {cs : List V} {nn : Option Nat} {k : V → Prop} : ldR b' cs nn (.ptr b z 0 0) k = Req (b = b') (WK (part cs 0 nn) (fun y => k (clr y)) ⟨⟩) := nr rfl
def resE (env : List (Nat × V)) (loc : List (Nat × (Nat × List V))) : List ARes → (List V → Prop) → Prop
  | [], k => k []
  | .t n :: r, k => WK (get env n) (fun x => resE env loc r fun xs => k (x :: xs)) ⟨⟩
  | .cell n s m :: r, k => WK (get loc s) (fun q => ldR q.1 q.2 m (getJ env n) fun x => resE env loc r fun xs => k (x :: xs)) ⟨⟩
@[congr] theorem resE_congr {l : List ARes} {env env' : List (Nat × V)} {loc loc' : List (Nat × (Nat × List V))} {k : List V → Prop} (h : env = env') (h2 : loc = loc') : resE env loc l k = resE env' loc' l k := by rw [h, h2]
theorem resE_nil {k : List V → Prop} : resE env loc [] k = k [] := nr rfl
theorem resE_t {m : Nat} {r : List ARes} {k : List V → Prop} : resE env loc (.t m :: r) k = WK (get env m) (fun x => resE env loc r fun xs => k (x :: xs)) ⟨⟩ := nr rfl
theorem resE_cell {m s : Nat} {j : Option Nat} {r : List ARes} {k : List V → Prop} : resE env loc (.cell m s j :: r) k = WK (get loc s) (fun q => ldR q.1 q.2 j (getJ env m) fun x => resE env loc r fun xs => k (x :: xs)) ⟨⟩ := nr rfl
theorem resE_eq : ∀ {res : List ARes} {k : List V → Prop}, W (resL ⟨env, loc, h, n⟩ res) k = resE env loc res k
  | [], k => rfl
  | .t m :: r, k => by
    simp only [resE, resL, resV, WK]
    cases hg : get env m with
    | none => rfl
    | some x => rw [Option.bind_some, W_map]; exact resE_eq
  | .cell m s j :: r, k => by
    simp only [resE, resL, resV, WK]
    rw [← getJ_eq]
    cases hm : get env m with
    | none => cases get loc s <;> rfl
    | some x =>
      cases hg : get loc s with
      | none => cases x <;> simp [W]
      | some q =>
        simp only [W_some, Option.getD_some]
        have ih : ∀ y, W (Option.map (fun x => y :: x) (resL ⟨env, loc, h, n⟩ r)) k = resE env loc r fun xs => k (y :: xs) := fun y => by rw [W_map]; exact resE_eq
        cases x <;> simp only [ldR, WK] <;> first | rfl | skip
        rename_i b z i off
        cases i with
        | succ i => rfl
        | zero =>
          cases off with
          | succ off => rfl
          | zero =>
            simp only []
            by_cases hb : b = q.1
            · rw [if_pos hb, W_bind, W_map]
              simp only [ih, Req, hb, true_and]
            · rw [if_neg hb]
              simp [W, Req, hb]
theorem endQ_n {res : List ARes} {Q : V → Heap → Nat → Prop} : endQ res Q .normal ⟨env, loc, h, n⟩ = resE env loc res fun rs => Q (outV rs) h n := resE_eq
theorem endQ_r {res : List ARes} {Q : V → Heap → Nat → Prop} : endQ res Q .ret ⟨env, loc, h, n⟩ = resE env loc res fun rs => Q (outV rs) h n := resE_eq
theorem outV_one {x : V} : outV [x] = x := nr rfl
theorem outV_two {x y : V} {r : List V} : outV (x :: y :: r) = .tup (x :: y :: r) := nr rfl

/-- A function is entered. -/
theorem run_enter {T : Tab} {f v : Nat} {F : AFun} {args : List V} {hp : Heap} {n : Nat} {Q : V → Heap → Nat → Prop} (hT : T.fn f v = some F) (hl : args.length = F.np) (hh : wpC (Run T) F.code (endQ F.res Q) ⟨initE 0 args, [], hp, n⟩) : Run T f v args hp n Q := by
  apply Run.fold
  right
  rw [hT]
  exact ⟨hl, hh⟩

end
end Go.Proofs.Ythphnacnjbcpiaa.E

/- The engine, part AF: how operations are run by rewriting. Conditions: none. -/
namespace Go.Proofs.Ythphnacnjbcpiaa.E
set_option linter.unusedVariables false
set_option linter.unusedSimpArgs false

def pickV (c : Bool) (a b : V) : V := if c then clr a else clr b
def hasN : List Nat → Nat → Bool
  | [], _ => false
  | b :: l, a => if a = b then true else hasN l a
theorem hasN_eq : ∀ (l : List Nat) (a : Nat), l.contains a = hasN l a
  | [], _ => rfl
  | b :: l, a => by
    rw [List.contains_cons, hasN, hasN_eq l a]
    by_cases h : a = b
    · simp [h]
    · simp [h]
def ldB (blk : Blk) (z i o : Nat) (m : Option Nat) (k : V → Prop) : Prop := match blk with | .rows z' l => Req (z = z') (WK l[i]? (fun row => WK (part row.cells o m) k ⟨⟩) ⟨⟩) | _ => False
def stB (blk : Blk) (z i o m : Nat) (y : V) (k : List V → Prop) : Prop := match blk with | .rows z' l => Req (z = z' ∧ y.cells.length = m ∧ o + m ≤ z ∧ solid y = true ∧ y.cells.all okCell = true) (WK l[i]? (fun row => k (l.set i (reRow row (row.cells.take o ++ y.cells ++ row.cells.drop (o + m))))) ⟨⟩) | _ => False
def mpB (blk : Blk) (k : List (V × V) → Prop) : Prop := match blk with | .map es => k es | _ => False
def outQ (ok : Bool) (z : V) (q : Option (Nat × V)) : V := match q with
  | some (_, v) => if ok then V.tup [clr2 v, .bool true] else clr2 v
  | none => if ok then V.tup [clr2 z, .bool false] else clr2 z
def updQ (es : List (V × V)) (y v : V) (q : Option (Nat × V)) : List (V × V) := match q with | some (i, _) => es.set i (y, v) | none => es ++ [(clr2 y, v)]
def tkB (blk : Blk) (z i o : Nat) (k : V → List V → Prop) : Prop := match blk with | .rows z' l => Req (z = z') (WK l[i]? (fun row => WK row.cells[o]? (fun c => Req (okCell c = true) (k c (l.set i (reRow row (row.cells.take o ++ [clr1 c] ++ row.cells.drop (o + 1)))))) ⟨⟩) ⟨⟩) | _ => False
def clB (blk : Blk) (sz o m : Nat) (zero : V) (k : List V → Prop) : Prop := match blk with | .rows z' l => Req (z' = sz ∧ o + m ≤ l.length ∧ zero.cells.length = sz ∧ noH2 zero = true ∧ zero.cells.all okCell = true) (k (l.take o ++ List.replicate m (clr2 zero) ++ l.drop (o + m))) | _ => False
/-- Something is taken out of a map. -/
def lkT (z y : V) (es : List (V × V)) (q : Option (Nat × V)) (b : Nat) (h : Heap) (k : V × Heap × Nat → Prop) : Prop := match q with | some (i, v) => k (v, set h b (.map (es.set i (y, clr2 v))), 0) | none => k (z, h, 0)
def frB (h : Heap) (b z o m : Nat) (k : V × Heap × Nat → Prop) : Prop := W (hf (.frz z) [.hs b z o m] h 0) k
def mv1 (e : List (Nat × V)) (m : Nat) : Option V → List (Nat × V)
  | some x => set e m (clr x)
  | none => e
/-! ### Slots as they were laid, the last first -/
def cn (l : List (Nat × V)) : List (Nat × V) := l.foldr (fun p r => set r p.1 p.2) []
def lkO : List (Nat × V) → Nat → Option V
  | [], _ => none
  | (a, x) :: r, k => if k = a then some x else lkO r k
def lk (l : List (Nat × V)) (k : Nat) : V := (lkO l k).getD .junk
def selc (j : Nat) : Option V → List (Nat × V) → List (Nat × V)
  | some x, r => (j, x) :: r
  | none, r => r
def sel : List Nat → List (Nat × V) → List (Nat × V)
  | [], _ => []
  | j :: ks, l => selc j (lkO l j) (sel ks l)
theorem set_cn {l : List (Nat × V)} {k : Nat} {x : V} : set (cn l) k x = cn ((k, x) :: l) := rfl
theorem get_set1 {α : Type} (k : Nat) (x : α) (j : Nat) : ∀ l : List (Nat × α), get (set l k x) j = if j = k then some x else get l j
  | [] => by simp [set, get]
  | (a, y) :: r => by
    have ih := get_set1 k x j r
    simp only [set]
    split
    · simp only [get]
    · split
      · rename_i h1 h2; subst h2; simp only [get]; split <;> rfl
      · rename_i h1 h2
        simp only [get, ih]
        by_cases h3 : j = a
        · rw [if_pos h3, if_pos h3, if_neg (by omega)]
        · rw [if_neg h3, if_neg h3]
theorem get_cn (k : Nat) : ∀ l : List (Nat × V), get (cn l) k = lkO l k
  | [] => rfl
  | (a, x) :: l => by rw [← set_cn, get_set1, get_cn k l]; rfl
theorem cn_sorted : ∀ l : List (Nat × V), Sorted (cn l)
  | [] => List.Pairwise.nil
  | (a, x) :: l => set_sorted (cn_sorted l) a x
theorem getJ_cn {l : List (Nat × V)} {k : Nat} : getJ (cn l) k = lk l k := by rw [← getJ_eq, get_cn]; rfl
theorem sorted_ext {α : Type} : ∀ {l l' : List (Nat × α)}, Sorted l → Sorted l' → (∀ k, get l k = get l' k) → l = l'
  | [], [], _, _, _ => rfl
  | [], (b, y) :: r', _, _, h => by have := h b; simp [get] at this
  | (a, x) :: r, [], _, _, h => by have := h a; simp [get] at this
  | (a, x) :: r, (b, y) :: r', s1, s2, h => by
    have s1' := List.pairwise_cons.1 s1
    have s2' := List.pairwise_cons.1 s2
    have hab : a = b := by
      rcases Nat.lt_trichotomy a b with c | c | c
      · have e := h a
        simp only [get, if_true] at e
        rw [if_neg (by omega)] at e
        have := s2'.1 _ (get_mem e.symm)
        simp only at this; omega
      · exact c
      · have e := h b
        simp only [get, if_true] at e
        rw [if_neg (by omega)] at e
        have := s1'.1 _ (get_mem e)
        simp only at this; omega
    subst hab
    have hx : x = y := by have := h a; simpa [get] using this
    subst hx
    congr 1
    refine sorted_ext s1'.2 s2'.2 fun k => ?_
    by_cases c : k = a
    · subst c
      have none1 : ∀ {q : List (Nat × α)}, (∀ p ∈ q, k < p.1) → get q k = none := fun {q} hq => by
        cases hg : get q k with
        | none => rfl
        | some z => have := hq _ (get_mem hg); simp only at this; omega
      rw [none1 s1'.1, none1 s2'.1]
    · have := h k
      simpa [get, c] using this
theorem get_keep {α : Type} (ks : List Nat) (k : Nat) : ∀ l : List (Nat × α), get (keep ks l) k = if ks.contains k = true then get l k else none
  | [] => by simp [keep, get]
  | (a, x) :: l => by
    have ih := get_keep ks k l
    unfold keep at ih ⊢
    rw [List.filter_cons]
    by_cases c : ks.contains a = true
    · simp only [c, if_true, get]
      by_cases e : k = a
      · subst e; rw [if_pos rfl, if_pos c, if_pos rfl]
      · rw [if_neg e, ih, if_neg e]
    · simp only [c, get]
      rw [if_neg (by simp), ih]
      by_cases e : k = a
      · subst e; simp only [c]; rfl
      · rw [if_neg e]
theorem lkO_sel (l : List (Nat × V)) (k : Nat) : ∀ ks : List Nat, lkO (sel ks l) k = if ks.contains k = true then lkO l k else none
  | [] => by simp [sel, lkO]
  | j :: ks => by
    have ih := lkO_sel l k ks
    simp only [sel, List.contains_cons]
    cases hj : lkO l j with
    | none =>
      simp only [selc, ih]
      by_cases e : k = j
      · subst e; simp [hj]
      · simp [e]
    | some x =>
      simp only [selc, lkO, ih]
      by_cases e : k = j
      · subst e; simp [hj]
      · simp [e]
theorem keep_cn {ks : List Nat} {l : List (Nat × V)} : keep ks (cn l) = cn (sel ks l) :=
  sorted_ext (keep_sorted (cn_sorted l) ks) (cn_sorted _) fun k => by rw [get_keep, get_cn, get_cn, lkO_sel]
theorem cn_id : ∀ {l : List (Nat × V)}, Sorted l → cn l = l
  | [], _ => rfl
  | (a, x) :: l, h => by
    have h' := List.pairwise_cons.1 h
    rw [← set_cn, cn_id h'.2]
    cases l with
    | nil => rfl
    | cons p l =>
      obtain ⟨b, y⟩ := p
      have := h'.1 (b, y) (by simp)
      simp only at this
      simp only [set]
      rw [if_pos this]
theorem initE_low : ∀ (l : List V) (i : Nat), ∀ p ∈ initE i l, i ≤ p.1
  | [], i, p, h => by simp [initE] at h
  | x :: l, i, p, h => by
    simp only [initE, List.mem_cons] at h
    rcases h with rfl | h
    · exact Nat.le_refl _
    · have := initE_low l (i + 1) p h; omega
theorem initE_srt : ∀ (l : List V) (i : Nat), Sorted (initE i l)
  | [], i => List.Pairwise.nil
  | x :: l, i => List.Pairwise.cons (fun p hp => by have := initE_low l (i + 1) p hp; simp only; omega) (initE_srt l (i + 1))
/-- A function is entered. -/
theorem enter {T : Tab} {f v : Nat} {F : AFun} {args : List V} {hp : Heap} {n : Nat} {Q : V → Heap → Nat → Prop} (hT : T.fn f v = some F) (hl : args.length = F.np) (hh : wpC (Run T) F.code (endQ F.res Q) ⟨cn (initE 0 args), [], hp, n⟩) : Run T f v args hp n Q :=
  run_enter hT hl (by rw [cn_id (initE_srt args 0)] at hh; exact hh)
/-- A loop is entered. -/
theorem loopI {X : Sem3} {Q : AE → St → Prop} {ke kl : List Nat} {c : AC} {l : List (Nat × V)} {loc : List (Nat × (Nat × List V))} {h : Heap} {n : Nat} (hh : ∀ L : St → Prop, (∀ st, wpC X c (loopQ L ke kl Q) st → L st) → L ⟨cn (sel ke l), keep kl loc, h, n⟩) : wpC X (.loop ke kl c) Q ⟨cn l, loc, h, n⟩ :=
  loop_intro fun L hL => by rw [keep_cn]; exact hh L hL
section
variable {k : V → Prop}
theorem pf_mv {t : Tag k} {x : V} : WK (pf .mv [x]) k t = k x := nr rfl
theorem pf_same {t : Tag k} {s : List UInt8} : WK (pf .same [.str s]) k t = k (.str s) := nr rfl
theorem pf_pick {t : Tag k} {c : Bool} {a b : V} : WK (pf .pick [.bool c, a, b]) k t = k (pickV c a b) := nr rfl
theorem pf_ar_add {t : Tag k} {a b : Int} : WK (pf (.ar .add) [.int .i64 a, .int .i64 b]) k t = Req (-9223372036854775808 ≤ a + b ∧ a + b ≤ 9223372036854775807) (k (.int .i64 (a + b))) := by
  unfold WK
  simp only [pf, and_self, if_true, arF, Option.bind_some]
  rw [W_ite]
  rfl
theorem pf_arw_add {t : Tag k} {q : IntKind} {a b : Int} : WK (pf (.arw .add) [.int q a, .int q b]) k t = k (.int q (q.wrap (a + b))) := by
  unfold WK
  simp [pf, arF, W]
theorem pf_ar_sub {t : Tag k} {a b : Int} : WK (pf (.ar .sub) [.int .i64 a, .int .i64 b]) k t = Req (-9223372036854775808 ≤ a - b ∧ a - b ≤ 9223372036854775807) (k (.int .i64 (a - b))) := by
  unfold WK
  simp only [pf, and_self, if_true, arF, Option.bind_some]
  rw [W_ite]
  rfl
theorem pf_arw_sub {t : Tag k} {q : IntKind} {a b : Int} : WK (pf (.arw .sub) [.int q a, .int q b]) k t = k (.int q (q.wrap (a - b))) := by
  unfold WK
  simp [pf, arF, W]
theorem pf_ar_mul {t : Tag k} {a b : Int} : WK (pf (.ar .mul) [.int .i64 a, .int .i64 b]) k t = Req (-9223372036854775808 ≤ a * b ∧ a * b ≤ 9223372036854775807) (k (.int .i64 (a * b))) := by
  unfold WK
  simp only [pf, and_self, if_true, arF, Option.bind_some]
  rw [W_ite]
  rfl
theorem pf_arw_mul {t : Tag k} {q : IntKind} {a b : Int} : WK (pf (.arw .mul) [.int q a, .int q b]) k t = k (.int q (q.wrap (a * b))) := by
  unfold WK
  simp [pf, arF, W]
theorem pf_quo {t : Tag k} {q : IntKind} {a b : Int} : WK (pf (.dv .quo) [.int q a, .int q b]) k t = Req (b ≠ 0) (k (.int q (q.wrap (a.tdiv b)))) := by
  unfold WK
  simp only [pf, true_and]; rw [W_ite]; rfl
theorem pf_rem {t : Tag k} {q : IntKind} {a b : Int} : WK (pf (.dv .rem) [.int q a, .int q b]) k t = Req (b ≠ 0) (k (.int q (a.tmod b))) := by
  unfold WK
  simp only [pf, true_and]; rw [W_ite]; rfl
theorem pf_bits {t : Tag k} {op : BinOp} {q : IntKind} {a b : Int} : WK (pf (.bits op) [.int q a, .int q b]) k t = WK (bitsF op q a b) (fun r => k (.int q r)) ⟨⟩ := by
  unfold WK
  simp only [pf, if_pos, W_map]
theorem pf_sh {t : Tag k} {op : BinOp} {q q' : IntKind} {a b : Int} : WK (pf (.sh op) [.int q a, .int q' b]) k t = Req (0 ≤ b) (WK (shF op q a b) (fun r => k (.int q r)) ⟨⟩) := by
  unfold WK
  simp only [pf]; rw [W_ite, W_map]
theorem pf_cmp_eql {t : Tag k} {q : IntKind} {a b : Int} : WK (pf (.cmp .eql) [.int q a, .int q b]) k t = k (.bool (decide (a = b))) := by
  unfold WK
  simp [pf, cmpF, W]
theorem pf_cmp_neq {t : Tag k} {q : IntKind} {a b : Int} : WK (pf (.cmp .neq) [.int q a, .int q b]) k t = k (.bool (decide (a ≠ b))) := by
  unfold WK
  simp [pf, cmpF, W]
theorem pf_cmp_lss {t : Tag k} {q : IntKind} {a b : Int} : WK (pf (.cmp .lss) [.int q a, .int q b]) k t = k (.bool (decide (a < b))) := by
  unfold WK
  simp [pf, cmpF, W]
theorem pf_cmp_leq {t : Tag k} {q : IntKind} {a b : Int} : WK (pf (.cmp .leq) [.int q a, .int q b]) k t = k (.bool (decide (a ≤ b))) := by
  unfold WK
  simp [pf, cmpF, W]
theorem pf_cmp_gtr {t : Tag k} {q : IntKind} {a b : Int} : WK (pf (.cmp .gtr) [.int q a, .int q b]) k t = k (.bool (decide (a > b))) := by
  unfold WK
  simp [pf, cmpF, W]
theorem pf_cmp_geq {t : Tag k} {q : IntKind} {a b : Int} : WK (pf (.cmp .geq) [.int q a, .int q b]) k t = k (.bool (decide (a ≥ b))) := by
  unfold WK
  simp [pf, cmpF, W]
theorem pf_scmp_eql {t : Tag k} {a b : List UInt8} : WK (pf (.scmp .eql) [.str a, .str b]) k t = k (.bool (decide (a = b))) := nr rfl
theorem pf_scmp_neq {t : Tag k} {a b : List UInt8} : WK (pf (.scmp .neq) [.str a, .str b]) k t = k (.bool (decide (a ≠ b))) := nr rfl
theorem pf_scmp_lss {t : Tag k} {a b : List UInt8} : WK (pf (.scmp .lss) [.str a, .str b]) k t = k (.bool (bytesLt a b)) := nr rfl
theorem pf_scmp_leq {t : Tag k} {a b : List UInt8} : WK (pf (.scmp .leq) [.str a, .str b]) k t = k (.bool (bytesLt a b || decide (a = b))) := nr rfl
theorem pf_scmp_gtr {t : Tag k} {a b : List UInt8} : WK (pf (.scmp .gtr) [.str a, .str b]) k t = k (.bool (!(bytesLt a b || decide (a = b)))) := nr rfl
theorem pf_scmp_geq {t : Tag k} {a b : List UInt8} : WK (pf (.scmp .geq) [.str a, .str b]) k t = k (.bool (!bytesLt a b)) := nr rfl
theorem pf_sadd {t : Tag k} {a b : List UInt8} : WK (pf .sadd [.str a, .str b]) k t = Req (a.length + b.length ≤ 17592186044416) (k (.str (a ++ b))) := by
  unfold WK
  simp only [pf]; rw [W_ite]; rfl
theorem pf_eqB {t : Tag k} {a b : Bool} : WK (pf (.eq false false [0]) [.bool a, .bool b]) k t = k (.bool (decide (a = b))) := nr rfl
theorem pf_neB {t : Tag k} {a b : Bool} : WK (pf (.eq true false [0]) [.bool a, .bool b]) k t = k (.bool (!decide (a = b))) := nr rfl
theorem pf_eqA {t : Tag k} {ks : List Nat} {x y : List V} : WK (pf (.eq false true ks) [.agg x, .agg y]) k t = WK (eqL ks x y) (fun r => k (.bool r)) ⟨⟩ := by
  unfold WK
  simp only [pf, eqV, W_map]; rfl
theorem pf_neA {t : Tag k} {ks : List Nat} {x y : List V} : WK (pf (.eq true true ks) [.agg x, .agg y]) k t = WK (eqL ks x y) (fun r => k (.bool (!r))) ⟨⟩ := by
  unfold WK
  simp only [pf, eqV, W_map]; rfl
theorem pf_not {t : Tag k} {b : Bool} : WK (pf .not [.bool b]) k t = k (.bool (!b)) := nr rfl
theorem pf_neg {t : Tag k} {q : IntKind} {a : Int} : WK (pf .neg [.int q a]) k t = k (.int q (q.wrap (0 - a))) := nr rfl
theorem pf_lenS {t : Tag k} {s : List UInt8} : WK (pf (.len true) [.str s]) k t = k (.int .i64 s.length) := nr rfl
theorem pf_lenL {t : Tag k} {o : Bool} {z : Nat} {l : List V} : WK (pf (.len false) [.sl o z l]) k t = k (.int .i64 l.length) := nr rfl
theorem pf_lenH {t : Tag k} {b z o m : Nat} : WK (pf (.len false) [.hs b z o m]) k t = k (.int .i64 m) := nr rfl
theorem pf_min {t : Tag k} {q : IntKind} {a b : Int} : WK (pf .min [.int q a, .int q b]) k t = k (.int q (if b < a then b else a)) := by
  unfold WK
  simp [pf, W]
theorem pf_max {t : Tag k} {q : IntKind} {a b : Int} : WK (pf .max [.int q a, .int q b]) k t = k (.int q (if b > a then b else a)) := by
  unfold WK
  simp [pf, W]
theorem pf_conv {t : Tag k} {q q' : IntKind} {a : Int} : WK (pf (.conv q) [.int q' a]) k t = k (.int q (q.wrap a)) := nr rfl
theorem pf_b2s {t : Tag k} {o : Bool} {l : List V} : WK (pf .b2s [.sl o 1 l]) k t = WK (bytesOf l) (fun s => k (.str s)) ⟨⟩ := by
  unfold WK
  simp only [pf, if_pos, W_map]
theorem pf_sidx {t : Tag k} {s : List UInt8} {q : IntKind} {i : Int} : WK (pf .sidx [.str s, .int q i]) k t = Req (0 ≤ i) (WK s[i.toNat]? (fun b => k (.int .u8 b.toNat)) ⟨⟩) := by
  unfold WK
  simp only [pf]
  rw [W_ite]
  by_cases h0 : 0 ≤ i
  · by_cases h1 : i.toNat < s.length
    · have h2 : i < s.length := by omega
      rw [List.getElem?_eq_getElem h1]
      simp [Req, h0, h2, W, List.getD_eq_getElem?_getD, h1]
    · have h2 : ¬ i < s.length := by omega
      rw [List.getElem?_eq_none (by omega)]
      simp [Req, h0, h2, W]
  · simp [Req, h0]
theorem pf_faddrP {t : Tag k} {o b z i f : Nat} : WK (pf (.faddr o) [.ptr b z i f]) k t = k (.ptr b z i (f + o)) := nr rfl
theorem pf_faddrF {t : Tag k} {o f : Nat} {cs : List V} : WK (pf (.faddr o) [.fptr cs f]) k t = k (.fptr cs (f + o)) := nr rfl
theorem pf_field {t : Tag k} {o : Nat} {m : Option Nat} {cs : List V} : WK (pf (.field o m) [.agg cs]) k t = WK (part cs o m) (fun y => k (clr y)) ⟨⟩ := by
  unfold WK
  simp only [pf, W_map]
theorem pf_iaddr {t : Tag k} {o : Bool} {z : Nat} {l : List V} {q : IntKind} {i : Int} : WK (pf (.iaddr z) [.sl o z l, .int q i]) k t = Req (0 ≤ i) (WK l[i.toNat]? (fun x => k (.fptr x.cells 0)) ⟨⟩) := by
  unfold WK
  simp only [pf, true_and]
  rw [W_ite, W_map]
  by_cases h0 : 0 ≤ i
  · by_cases h1 : i.toNat < l.length
    · have h2 : i < l.length := by omega
      simp [Req, h0, h2]
    · have h2 : ¬ i < l.length := by omega
      rw [List.getElem?_eq_none (by omega)]
      simp [Req, h0, h2, W]
  · simp [Req, h0]
theorem pf_iaddrH {t : Tag k} {b z o m : Nat} {q : IntKind} {i : Int} : WK (pf (.iaddr z) [.hs b z o m, .int q i]) k t = Req (0 < z ∧ 0 ≤ i ∧ i < m) (k (.ptr b z (o + i.toNat) 0)) := by
  unfold WK
  simp only [pf, true_and]; rw [W_ite]; rfl
theorem pf_aaddrP {t : Tag k} {z m b y i f : Nat} {q : IntKind} {j : Int} : WK (pf (.aaddr z m) [.ptr b y i f, .int q j]) k t = Req (0 ≤ j ∧ j < m) (k (.ptr b y i (f + j.toNat * z))) := by
  unfold WK
  simp only [pf]; rw [W_ite]; rfl
theorem pf_aaddrF {t : Tag k} {z m f : Nat} {cs : List V} {q : IntKind} {j : Int} : WK (pf (.aaddr z m) [.fptr cs f, .int q j]) k t = Req (0 ≤ j ∧ j < m) (k (.fptr cs (f + j.toNat * z))) := by
  unfold WK
  simp only [pf]; rw [W_ite]; rfl
theorem pf_aidx {t : Tag k} {z m : Nat} {y : Option Nat} {cs : List V} {q : IntKind} {j : Int} : WK (pf (.aidx z m y) [.agg cs, .int q j]) k t = Req (0 ≤ j ∧ j < m) (WK (part cs (j.toNat * z) y) (fun x => k (clr x)) ⟨⟩) := by
  unfold WK
  simp only [pf]; rw [W_ite, W_map]
theorem pf_loadF {t : Tag k} {m : Option Nat} {cs : List V} {o : Nat} : WK (pf (.loadF m) [.fptr cs o]) k t = WK (part cs o m) (fun y => k (clr y)) ⟨⟩ := by
  unfold WK
  simp only [pf, W_map]
theorem pf_nckP {t : Tag k} {b z i f : Nat} : WK (pf .nilck [.ptr b z i f]) k t = k (.ptr b z i f) := nr rfl
theorem pf_nckF {t : Tag k} {cs : List V} {f : Nat} : WK (pf .nilck [.fptr cs f]) k t = k (.fptr cs f) := nr rfl
theorem pf_nckN {t : Tag k} {f : FuncId} {cs : List V} : WK (pf .nilck [.fn f cs]) k t = k (.fn f cs) := nr rfl
theorem pf_ssub_ff {t : Tag k} {s : List UInt8} : WK (pf (.ssub false false) [.str s]) k t = k (.str s) := by
  unfold WK
  simp [pf, optI, W]
theorem pf_ssub_tf {t : Tag k} {s : List UInt8} {q : IntKind} {l : Int} : WK (pf (.ssub true false) [.str s, .int q l]) k t = Req (0 ≤ l ∧ l ≤ s.length) (k (.str (s.drop l.toNat))) := by
  unfold WK
  simp only [pf, optI, Option.bind_some]
  rw [W_ite, W_some]
  simp
theorem pf_ssub_ft {t : Tag k} {s : List UInt8} {q : IntKind} {h : Int} : WK (pf (.ssub false true) [.str s, .int q h]) k t = Req (0 ≤ h ∧ h ≤ s.length) (k (.str (s.take h.toNat))) := by
  unfold WK
  simp only [pf, optI, Option.bind_some]
  rw [W_ite, W_some]
  simp
theorem pf_ssub_tt {t : Tag k} {s : List UInt8} {q q' : IntKind} {l h : Int} : WK (pf (.ssub true true) [.str s, .int q l, .int q' h]) k t = Req (0 ≤ l ∧ l ≤ h ∧ h ≤ s.length) (k (.str ((s.take h.toNat).drop l.toNat))) := by
  unfold WK
  simp only [pf, optI, Option.bind_some]; rw [W_ite, W_some]
theorem pf_sub_ff {t : Tag k} {o : Bool} {z : Nat} {s : List V} : WK (pf (.sub z false false false) [.sl o z s]) k t = k (.sl false z s) := by
  unfold WK
  simp [pf, optI, W]
theorem pf_sub_tf {t : Tag k} {o : Bool} {z : Nat} {s : List V} {q : IntKind} {l : Int} : WK (pf (.sub z true false false) [.sl o z s, .int q l]) k t = Req (0 ≤ l ∧ l ≤ s.length) (k (.sl false z (s.drop l.toNat))) := by
  unfold WK
  simp only [pf, optI, Option.bind_some]
  rw [W_ite, W_some]
  simp
theorem pf_sub_ft {t : Tag k} {o : Bool} {z : Nat} {s : List V} {q : IntKind} {h : Int} : WK (pf (.sub z false true false) [.sl o z s, .int q h]) k t = Req (0 ≤ h ∧ h ≤ s.length) (k (.sl false z (s.take h.toNat))) := by
  unfold WK
  simp only [pf, optI, Option.bind_some]
  rw [W_ite, W_some]
  simp
theorem pf_sub_tt {t : Tag k} {o : Bool} {z : Nat} {s : List V} {q q' : IntKind} {l h : Int} : WK (pf (.sub z true true false) [.sl o z s, .int q l, .int q' h]) k t = Req (0 ≤ l ∧ l ≤ h ∧ h ≤ s.length) (k (.sl false z ((s.take h.toNat).drop l.toNat))) := by
  unfold WK
  simp only [pf, optI, Option.bind_some]
  rw [W_ite, W_some]
  simp
theorem pf_sub_ftt {t : Tag k} {o : Bool} {z : Nat} {s : List V} {q q' : IntKind} {h m : Int} : WK (pf (.sub z false true true) [.sl o z s, .int q h, .int q' m]) k t = Req (0 ≤ h ∧ h ≤ s.length ∧ m = h) (k (.sl true z (s.take h.toNat))) := by
  unfold WK
  simp only [pf, optI, Option.bind_some]
  rw [W_ite, W_some]
  simp
theorem pf_sub_ttt {t : Tag k} {o : Bool} {z : Nat} {s : List V} {q q' q2 : IntKind} {l h m : Int} : WK (pf (.sub z true true true) [.sl o z s, .int q l, .int q' h, .int q2 m]) k t = Req (0 ≤ l ∧ l ≤ h ∧ h ≤ s.length ∧ m = h) (k (.sl true z ((s.take h.toNat).drop l.toNat))) := by
  unfold WK
  simp only [pf, optI, Option.bind_some]
  rw [W_ite, W_some]
  simp
theorem pf_subH_tf {t : Tag k} {b z o m : Nat} {q : IntKind} {l : Int} : WK (pf (.sub z true false false) [.hs b z o m, .int q l]) k t = Req (0 < z ∧ 0 ≤ l ∧ l ≤ m) (k (.hs b z (o + l.toNat) (m - l.toNat))) := by
  unfold WK
  simp only [pf, optI, Option.bind_some]
  rw [W_ite, W_some]
  simp
theorem pf_subH_ft {t : Tag k} {b z o m : Nat} {q : IntKind} {h : Int} : WK (pf (.sub z false true false) [.hs b z o m, .int q h]) k t = Req (0 < z ∧ 0 ≤ h ∧ h ≤ m) (k (.hs b z o h.toNat)) := by
  unfold WK
  simp only [pf, optI, Option.bind_some]
  rw [W_ite, W_some]
  simp
theorem pf_build {t : Tag k} {zero : List V} {ps : List (Nat × Nat)} {xs : List V} : WK (pf (.build zero ps) xs) k t = WK (fillP zero ps xs) (fun cs => k (.agg cs)) ⟨⟩ := by
  unfold WK
  simp only [pf, W_map]
theorem fillP_nil {cs : List V} {k : List V → Prop} {t : Tag k} : WK (fillP cs [] []) k t = k cs := nr rfl
theorem fillP_cons {cs : List V} {o z : Nat} {ps : List (Nat × Nat)} {x : V} {xs : List V} {k : List V → Prop} {t : Tag k} : WK (fillP cs ((o, z) :: ps) (x :: xs)) k t = Req (x.cells.length = z ∧ o + z ≤ cs.length ∧ solid x = true) (WK (fillP (cs.take o ++ x.cells.map clr1 ++ cs.drop (o + z)) ps xs) k t) := by
  unfold WK
  simp only [fillP]; rw [W_ite]
theorem pf_mkfn {t : Tag k} {f : FuncId} {xs : List V} : WK (pf (.mkfn f) xs) k t = k (.fn f xs) := nr rfl
theorem pf_mkif {t : Tag k} {u : TypeId} {x : V} : WK (pf (.mkif u) [x]) k t = k (.iface u x) := nr rfl
theorem eqL_nil : eqL [] [] [] = some true := nr rfl
theorem eqL_b {ks : List Nat} {a b : Bool} {x y : List V} : eqL (0 :: ks) (.bool a :: x) (.bool b :: y) = (eqL ks x y).map fun q => decide (a = b) && q := nr rfl
theorem eqL_i {ks : List Nat} {q : IntKind} {a b : Int} {x y : List V} : eqL (1 :: ks) (.int q a :: x) (.int q b :: y) = (eqL ks x y).map fun q => decide (a = b) && q := by simp [eqL, eq1]
theorem eqL_s {ks : List Nat} {a b : List UInt8} {x y : List V} : eqL (2 :: ks) (.str a :: x) (.str b :: y) = (eqL ks x y).map fun q => decide (a = b) && q := nr rfl
theorem part_n {cs : List V} {o : Nat} : part cs o none = cs[o]? := nr rfl
theorem part_s {cs : List V} {o m : Nat} : part cs o (some m) = if o + m ≤ cs.length then some (.agg ((cs.drop o).take m)) else none := nr rfl
theorem af_app {t : Tag k} {o o' : Bool} {z y : Nat} {l l' : List V} : WK (af (.app z y) [.sl o z l, .sl o' z l']) k t = Req (o = true ∧ (l.length + l'.length) * y ≤ 17592186044416 ∧ l.length + l'.length ≤ 17592186044416) (k (.sl true z (l ++ l'))) := by
  unfold WK
  simp only [af, true_and]; rw [W_ite]; rfl
theorem af_apps {t : Tag k} {o : Bool} {l : List V} {s : List UInt8} : WK (af .apps [.sl o 1 l, .str s]) k t = Req (o = true ∧ l.length + s.length ≤ 17592186044416) (k (.sl true 1 (l ++ s.map byteV))) := by
  unfold WK
  simp only [af, true_and]; rw [W_ite]; rfl
theorem af_s2b {t : Tag k} {s : List UInt8} : WK (af .s2b [.str s]) k t = Req (s.length ≤ 17592186044416) (k (.sl true 1 (s.map byteV))) := by
  unfold WK
  simp only [af]; rw [W_ite]; rfl
theorem af_mk {t : Tag k} {z y : Nat} {zero : V} {q q' : IntKind} {m c : Int} : WK (af (.mkslice z y zero) [.int q m, .int q' c]) k t = Req (0 ≤ m ∧ m ≤ c ∧ c.toNat * y ≤ 17592186044416 ∧ c ≤ 17592186044416 ∧ zero.cells.length = z ∧ noH2 zero = true) (k (.sl true z (List.replicate m.toNat zero))) := by
  unfold WK
  simp only [af]; rw [W_ite]; rfl
theorem af_bs {t : Tag k} {z m : Nat} {zero : List V} {ps : List Nat} {xs : List V} : WK (af (.bslice z m zero ps) xs) k t = Req (m * z ≤ 16777216 ∧ zero.length = z ∧ zero.all noH1 = true) (WK (fillE (List.replicate m (ofCells z zero)) z ps xs) (fun l => k (.sl true z l)) ⟨⟩) := by
  unfold WK
  simp only [af]; rw [W_ite, W_map]
theorem fillE_nil {l : List V} {z : Nat} {k : List V → Prop} {t : Tag k} : WK (fillE l z [] []) k t = k l := nr rfl
theorem fillE_cons {l : List V} {z i : Nat} {ps : List Nat} {x : V} {xs : List V} {k : List V → Prop} {t : Tag k} : WK (fillE l z (i :: ps) (x :: xs)) k t = Req (x.cells.length = z ∧ i < l.length ∧ noH2 x = true) (WK (fillE (l.set i (clr2 x)) z ps xs) k t) := by
  unfold WK
  simp only [fillE]; rw [W_ite]
theorem clr_junk : clr .junk = .junk := nr rfl
theorem clr1_junk : clr1 .junk = .junk := nr rfl
theorem clr2_junk : clr2 .junk = .junk := nr rfl
theorem cells_junk : V.cells .junk = [.junk] := nr rfl
theorem solid_junk : solid .junk = false := nr rfl
theorem okCell_junk : okCell .junk = false := nr rfl
theorem clr_bool {b : Bool} : clr (.bool b) = (.bool b) := nr rfl
theorem clr1_bool {b : Bool} : clr1 (.bool b) = (.bool b) := nr rfl
theorem clr2_bool {b : Bool} : clr2 (.bool b) = (.bool b) := nr rfl
theorem cells_bool {b : Bool} : V.cells (.bool b) = [(.bool b)] := nr rfl
theorem solid_bool {b : Bool} : solid (.bool b) = true := nr rfl
theorem okCell_bool {b : Bool} : okCell (.bool b) = true := nr rfl
theorem clr_int {q : IntKind} {a : Int} : clr (.int q a) = (.int q a) := nr rfl
theorem clr1_int {q : IntKind} {a : Int} : clr1 (.int q a) = (.int q a) := nr rfl
theorem clr2_int {q : IntKind} {a : Int} : clr2 (.int q a) = (.int q a) := nr rfl
theorem cells_int {q : IntKind} {a : Int} : V.cells (.int q a) = [(.int q a)] := nr rfl
theorem solid_int {q : IntKind} {a : Int} : solid (.int q a) = true := nr rfl
theorem okCell_int {q : IntKind} {a : Int} : okCell (.int q a) = true := nr rfl
theorem clr_str {s : List UInt8} : clr (.str s) = (.str s) := nr rfl
theorem clr1_str {s : List UInt8} : clr1 (.str s) = (.str s) := nr rfl
theorem clr2_str {s : List UInt8} : clr2 (.str s) = (.str s) := nr rfl
theorem cells_str {s : List UInt8} : V.cells (.str s) = [(.str s)] := nr rfl
theorem solid_str {s : List UInt8} : solid (.str s) = true := nr rfl
theorem okCell_str {s : List UInt8} : okCell (.str s) = true := nr rfl
theorem clr_nilp : clr .nilp = .nilp := nr rfl
theorem clr1_nilp : clr1 .nilp = .nilp := nr rfl
theorem clr2_nilp : clr2 .nilp = .nilp := nr rfl
theorem cells_nilp : V.cells .nilp = [.nilp] := nr rfl
theorem solid_nilp : solid .nilp = true := nr rfl
theorem okCell_nilp : okCell .nilp = true := nr rfl
theorem clr_ptr {b z i o : Nat} : clr (.ptr b z i o) = (.ptr b z i o) := nr rfl
theorem clr1_ptr {b z i o : Nat} : clr1 (.ptr b z i o) = (.ptr b z i o) := nr rfl
theorem clr2_ptr {b z i o : Nat} : clr2 (.ptr b z i o) = (.ptr b z i o) := nr rfl
theorem cells_ptr {b z i o : Nat} : V.cells (.ptr b z i o) = [(.ptr b z i o)] := nr rfl
theorem solid_ptr {b z i o : Nat} : solid (.ptr b z i o) = true := nr rfl
theorem okCell_ptr {b z i o : Nat} : okCell (.ptr b z i o) = true := nr rfl
theorem clr_fptr {cs : List V} {o : Nat} : clr (.fptr cs o) = (.fptr cs o) := nr rfl
theorem clr1_fptr {cs : List V} {o : Nat} : clr1 (.fptr cs o) = (.fptr cs o) := nr rfl
theorem clr2_fptr {cs : List V} {o : Nat} : clr2 (.fptr cs o) = (.fptr cs o) := nr rfl
theorem cells_fptr {cs : List V} {o : Nat} : V.cells (.fptr cs o) = [(.fptr cs o)] := nr rfl
theorem solid_fptr {cs : List V} {o : Nat} : solid (.fptr cs o) = true := nr rfl
theorem okCell_fptr {cs : List V} {o : Nat} : okCell (.fptr cs o) = true := nr rfl
theorem clr_hs {b z o m : Nat} : clr (.hs b z o m) = (.hs b z o m) := nr rfl
theorem clr1_hs {b z o m : Nat} : clr1 (.hs b z o m) = (.hs b z o m) := nr rfl
theorem clr2_hs {b z o m : Nat} : clr2 (.hs b z o m) = (.hs b z o m) := nr rfl
theorem cells_hs {b z o m : Nat} : V.cells (.hs b z o m) = [(.hs b z o m)] := nr rfl
theorem solid_hs {b z o m : Nat} : solid (.hs b z o m) = true := nr rfl
theorem okCell_hs {b z o m : Nat} : okCell (.hs b z o m) = true := nr rfl
theorem clr_nilm : clr .nilm = .nilm := nr rfl
theorem clr1_nilm : clr1 .nilm = .nilm := nr rfl
theorem clr2_nilm : clr2 .nilm = .nilm := nr rfl
theorem cells_nilm : V.cells .nilm = [.nilm] := nr rfl
theorem solid_nilm : solid .nilm = true := nr rfl
theorem okCell_nilm : okCell .nilm = true := nr rfl
theorem clr_hm {b : Nat} : clr (.hm b) = (.hm b) := nr rfl
theorem clr1_hm {b : Nat} : clr1 (.hm b) = (.hm b) := nr rfl
theorem clr2_hm {b : Nat} : clr2 (.hm b) = (.hm b) := nr rfl
theorem cells_hm {b : Nat} : V.cells (.hm b) = [(.hm b)] := nr rfl
theorem solid_hm {b : Nat} : solid (.hm b) = true := nr rfl
theorem okCell_hm {b : Nat} : okCell (.hm b) = true := nr rfl
theorem clr_fn {f : FuncId} {cs : List V} : clr (.fn f cs) = (.fn f cs) := nr rfl
theorem clr1_fn {f : FuncId} {cs : List V} : clr1 (.fn f cs) = (.fn f cs) := nr rfl
theorem clr2_fn {f : FuncId} {cs : List V} : clr2 (.fn f cs) = (.fn f cs) := nr rfl
theorem cells_fn {f : FuncId} {cs : List V} : V.cells (.fn f cs) = [(.fn f cs)] := nr rfl
theorem solid_fn {f : FuncId} {cs : List V} : solid (.fn f cs) = true := nr rfl
theorem okCell_fn {f : FuncId} {cs : List V} : okCell (.fn f cs) = true := nr rfl
theorem clr_nilf : clr .nilf = .nilf := nr rfl
theorem clr1_nilf : clr1 .nilf = .nilf := nr rfl
theorem clr2_nilf : clr2 .nilf = .nilf := nr rfl
theorem cells_nilf : V.cells .nilf = [.nilf] := nr rfl
theorem solid_nilf : solid .nilf = true := nr rfl
theorem okCell_nilf : okCell .nilf = true := nr rfl
theorem clr_iface {t : TypeId} {x : V} : clr (.iface t x) = (.iface t x) := nr rfl
theorem clr1_iface {t : TypeId} {x : V} : clr1 (.iface t x) = (.iface t x) := nr rfl
theorem clr2_iface {t : TypeId} {x : V} : clr2 (.iface t x) = (.iface t x) := nr rfl
theorem cells_iface {t : TypeId} {x : V} : V.cells (.iface t x) = [(.iface t x)] := nr rfl
theorem solid_iface {t : TypeId} {x : V} : solid (.iface t x) = true := nr rfl
theorem okCell_iface {t : TypeId} {x : V} : okCell (.iface t x) = true := nr rfl
theorem clr_nili : clr .nili = .nili := nr rfl
theorem clr1_nili : clr1 .nili = .nili := nr rfl
theorem clr2_nili : clr2 .nili = .nili := nr rfl
theorem cells_nili : V.cells .nili = [.nili] := nr rfl
theorem solid_nili : solid .nili = true := nr rfl
theorem okCell_nili : okCell .nili = true := nr rfl
theorem noH1_bool {b : Bool} : noH1 (.bool b) = true := nr rfl
theorem noH1_int {q : IntKind} {a : Int} : noH1 (.int q a) = true := nr rfl
theorem noH1_str {s : List UInt8} : noH1 (.str s) = true := nr rfl
theorem noH1_nilp : noH1 .nilp = true := nr rfl
theorem noH1_fptr {cs : List V} {o : Nat} : noH1 (.fptr cs o) = true := nr rfl
theorem noH1_nilm : noH1 .nilm = true := nr rfl
theorem noH1_nilf : noH1 .nilf = true := nr rfl
theorem noH1_nili : noH1 .nili = true := nr rfl
theorem noH1_sl {o : Bool} {z : Nat} {l : List V} : noH1 (.sl o z l) = true := nr rfl
theorem ofC1 {x : V} : ofCells 1 [x] = x := nr rfl
theorem ofC2 {z : Nat} {x y : V} {l : List V} : ofCells z (x :: y :: l) = if z = 1 then x else .agg (x :: y :: l) := nr rfl
theorem z_rep1 {a : V} : List.replicate 1 a = [a] := nr rfl
theorem z_rep2 {a : V} : List.replicate 2 a = [a, a] := nr rfl
theorem z_rep3 {a : V} : List.replicate 3 a = [a, a, a] := nr rfl
theorem z_rep4 {a : V} : List.replicate 4 a = [a, a, a, a] := nr rfl
theorem z_rep5 {a : V} : List.replicate 5 a = [a, a, a, a, a] := nr rfl
theorem z_rep6 {a : V} : List.replicate 6 a = [a, a, a, a, a, a] := nr rfl
theorem z_rep7 {a : V} : List.replicate 7 a = [a, a, a, a, a, a, a] := nr rfl
theorem z_rep8 {a : V} : List.replicate 8 a = [a, a, a, a, a, a, a, a] := nr rfl
theorem z_rep9 {a : V} : List.replicate 9 a = [a, a, a, a, a, a, a, a, a] := nr rfl
theorem z_rep10 {a : V} : List.replicate 10 a = [a, a, a, a, a, a, a, a, a, a] := nr rfl
theorem z_rep11 {a : V} : List.replicate 11 a = [a, a, a, a, a, a, a, a, a, a, a] := nr rfl
theorem z_rep12 {a : V} : List.replicate 12 a = [a, a, a, a, a, a, a, a, a, a, a, a] := nr rfl
theorem clr_sl {o : Bool} {z : Nat} {l : List V} : clr (.sl o z l) = .sl false z l := nr rfl
theorem clr1_sl {o : Bool} {z : Nat} {l : List V} : clr1 (.sl o z l) = .sl false z l := nr rfl
theorem clr2_sl {o : Bool} {z : Nat} {l : List V} : clr2 (.sl o z l) = .sl false z l := nr rfl
theorem cells_sl {o : Bool} {z : Nat} {l : List V} : V.cells (.sl o z l) = [.sl o z l] := nr rfl
theorem solid_sl {o : Bool} {z : Nat} {l : List V} : solid (.sl o z l) = true := nr rfl
theorem okCell_sl {o : Bool} {z : Nat} {l : List V} : okCell (.sl o z l) = true := nr rfl
theorem clr_agg {cs : List V} : clr (.agg cs) = .agg (cs.map clr1) := nr rfl
theorem clr2_agg {cs : List V} : clr2 (.agg cs) = .agg (cs.map clr1) := nr rfl
theorem clr_tup {cs : List V} : clr (.tup cs) = .tup (cs.map clr2) := nr rfl
theorem cells_agg {cs : List V} : V.cells (.agg cs) = cs := nr rfl
theorem solid_agg {cs : List V} : solid (.agg cs) = true := nr rfl
theorem okCell_agg {cs : List V} : okCell (.agg cs) = false := nr rfl
theorem cells_tup {cs : List V} : V.cells (.tup cs) = [.tup cs] := nr rfl
theorem pick_t {a b : V} : pickV true a b = clr a := nr rfl
theorem pick_f {a b : V} : pickV false a b = clr b := nr rfl
theorem pick_bb {c x y : Bool} : pickV c (.bool x) (.bool y) = .bool (if c then x else y) := by cases c <;> rfl
theorem z_ift {α : Type} {a b : α} : (if True then a else b) = a := by simp
theorem z_iff {α : Type} {a b : α} : (if False then a else b) = b := by simp
theorem z_iftP {a b : Prop} : (if True then a else b) = a := by simp
theorem z_iffP {a b : Prop} : (if False then a else b) = b := by simp
theorem z_iftB {α : Type} {a b : α} : (if true = true then a else b) = a := by simp
theorem z_iffB {α : Type} {a b : α} : (if false = true then a else b) = b := by simp
theorem z_eqN {a : Nat} : (a = a) = True := by simp
theorem z_eqI {a : Int} : (a = a) = True := by simp
theorem z_eqV {a : V} : (a = a) = True := by simp
theorem z_eqB {a : Bool} : (a = a) = True := by simp
theorem z_eqL {a : List UInt8} : (a = a) = True := by simp
theorem z_tand {a : Prop} : (True ∧ a) = a := by simp
theorem z_andt {a : Prop} : (a ∧ True) = a := by simp
theorem z_fand {a : Prop} : (False ∧ a) = False := by simp
theorem z_andf {a : Prop} : (a ∧ False) = False := by simp
theorem z_nt : (¬True) = False := by simp
theorem z_nf : (¬False) = True := by simp
theorem z_neq {α : Type} {a b : α} : (a ≠ b) = ¬(a = b) := nr rfl
theorem z_ff : (false = true) = False := by simp
theorem z_dt : decide True = true := by simp
theorem z_df : decide False = false := by simp
theorem z_dnot {p : Prop} [Decidable p] : decide (¬p) = !decide p := by simp
theorem z_bnt : (!true) = false := nr rfl
theorem z_bnf : (!false) = true := nr rfl
theorem z_bnn {b : Bool} : (!!b) = b := by simp
theorem z_bat {b : Bool} : (b && true) = b := by simp
theorem z_bta {b : Bool} : (true && b) = b := by simp
theorem z_bfa {b : Bool} : (false && b) = false := by simp
theorem z_baf {b : Bool} : (b && false) = false := by simp
theorem z_tn {m : Nat} : Int.toNat (m : Int) = m := by simp
theorem z_tn1 {m c : Nat} : Int.toNat ((m : Int) + (c : Int)) = m + c := by omega
theorem z_tn2 {m : Nat} : Int.toNat ((m : Int) + 1) = m + 1 := by omega
theorem z_na {m : Nat} : 0 + m = m := by simp
theorem z_an {m : Nat} : m + 0 = m := nr rfl
theorem z_mz {m : Nat} : 0 * m = 0 := by simp
theorem z_zm {m : Nat} : m * 0 = 0 := nr rfl
theorem z_le {m : Nat} : (m ≤ m) = True := by simp
theorem z_leI {m : Int} : (m ≤ m) = True := by simp
theorem z_0le {m : Nat} : ((0 : Int) ≤ (m : Int)) = True := by simp
theorem z_0leN {m : Nat} : (0 ≤ m) = True := by simp
theorem z_mapc {α : Type} {f : α → V} {a : α} {l : List α} : (a :: l).map f = f a :: l.map f := nr rfl
theorem z_mapn {α : Type} {f : α → V} : ([] : List α).map f = [] := nr rfl
theorem z_lenc {a : V} {l : List V} : (a :: l).length = l.length + 1 := nr rfl
theorem z_lenn : ([] : List V).length = 0 := nr rfl
theorem z_lenm {α : Type} {f : α → V} {l : List α} : (l.map f).length = l.length := by simp
theorem z_lenr {m : Nat} {a : V} : (List.replicate m a).length = m := by simp
theorem z_lenu : ([] : List UInt8).length = 0 := nr rfl
theorem z_lenuc {a : UInt8} {l : List UInt8} : (a :: l).length = l.length + 1 := nr rfl
theorem z_getz {a : V} {l : List V} : (a :: l)[0]? = some a := nr rfl
theorem z_gets {a : V} {l : List V} {m : Nat} : (a :: l)[m + 1]? = l[m]? := nr rfl
theorem z_getm {α : Type} {f : α → V} {l : List α} {m : Nat} : (l.map f)[m]? = l[m]?.map f := by simp
theorem z_setz {a b : V} {l : List V} : (a :: l).set 0 b = b :: l := nr rfl
theorem z_sets {a b : V} {l : List V} {m : Nat} : (a :: l).set (m + 1) b = a :: l.set m b := nr rfl
theorem z_allc {f : V → Bool} {a : V} {l : List V} : (a :: l).all f = (f a && l.all f) := nr rfl
theorem z_alln {f : V → Bool} : ([] : List V).all f = true := nr rfl
theorem z_tkz {l : List V} : l.take 0 = [] := nr rfl
theorem z_tks {a : V} {l : List V} {m : Nat} : (a :: l).take (m + 1) = a :: l.take m := nr rfl
theorem z_tkn {m : Nat} : ([] : List V).take m = [] := by simp
theorem z_drz {l : List V} : l.drop 0 = l := nr rfl
theorem z_drs {a : V} {l : List V} {m : Nat} : (a :: l).drop (m + 1) = l.drop m := nr rfl
theorem z_drn {m : Nat} : ([] : List V).drop m = [] := by simp
theorem z_apn {l : List V} : [] ++ l = l := nr rfl
theorem z_apc {a : V} {l l' : List V} : (a :: l) ++ l' = a :: (l ++ l') := nr rfl
theorem z_nap {l : List V} : l ++ [] = l := by simp
theorem z_drm {α : Type} {f : α → V} {l : List α} {m : Nat} : (l.map f).drop m = (l.drop m).map f := by simp
theorem z_tkm {α : Type} {f : α → V} {l : List α} {m : Nat} : (l.map f).take m = (l.take m).map f := by simp
theorem z_repz {a : V} : List.replicate 0 a = [] := nr rfl
theorem hf_boxH {h : Heap} {n : Nat} {k : V × Heap × Nat → Prop} {t : Tag k} {y : V} : WK (hf .boxH [y] h n) k t = Req (solid y = true ∧ y.cells.all okCell = true) (k (.ptr n y.cells.length 0 0, set h n (.rows y.cells.length [.agg y.cells]), 1)) := by
  unfold WK
  simp only [hf]; rw [W_ite]; rfl
theorem hf_alloc {h : Heap} {n : Nat} {k : V × Heap × Nat → Prop} {t : Tag k} {z : List V} : WK (hf (.allocH z) [] h n) k t = Req (z.all okCell = true) (k (.ptr n z.length 0 0, set h n (.rows z.length [.agg z]), 1)) := by
  unfold WK
  simp only [hf]; rw [W_ite]; rfl
theorem hf_load {h : Heap} {n : Nat} {k : V × Heap × Nat → Prop} {t : Tag k} {m : Option Nat} {b z i o : Nat} : WK (hf (.loadH m) [.ptr b z i o] h n) k t = WK (get h b) (fun blk => ldB blk z i o m fun y => k (clr y, h, 0)) ⟨⟩ := by
  unfold WK
  simp only [hf]
  cases get h b with
  | none => rfl
  | some blk =>
    cases blk with
    | map es => rfl
    | rows z' l =>
      simp only [ldB, WK]
      rw [W_ite, W_bind, W_some]
      simp only [W_map]
theorem hf_store {h : Heap} {n : Nat} {k : V × Heap × Nat → Prop} {t : Tag k} {m b z i o : Nat} {y : V} : WK (hf (.storeH m) [.ptr b z i o, y] h n) k t = WK (get h b) (fun blk => stB blk z i o m y fun l => k (.junk, set h b (.rows z l), 0)) ⟨⟩ := by
  unfold WK
  simp only [hf]
  cases get h b with
  | none => rfl
  | some blk =>
    cases blk with
    | map es => rfl
    | rows z' l =>
      simp only [stB, WK]
      rw [W_ite, W_map, W_some]
theorem hf_mkMap {h : Heap} {n : Nat} {k : V × Heap × Nat → Prop} {t : Tag k} : WK (hf .mkMap [] h n) k t = k (.hm n, set h n (.map []), 1) := nr rfl
theorem hf_lookN {h : Heap} {n : Nat} {k : V × Heap × Nat → Prop} {t : Tag k} {z y : V} {ok ag : Bool} {ks : List Nat} : WK (hf (.look z ok ag ks) [.nilm, y] h n) k t = k (outQ ok z none, h, 0) := nr rfl
theorem hf_look {h : Heap} {n : Nat} {k : V × Heap × Nat → Prop} {t : Tag k} {z y : V} {ok ag : Bool} {ks : List Nat} {b : Nat} : WK (hf (.look z ok ag ks) [.hm b, y] h n) k t = WK (get h b) (fun blk => mpB blk fun es => WK (findK ag ks y es 0) (fun q => k (outQ ok z q, h, 0)) ⟨⟩) ⟨⟩ := by
  unfold WK
  simp only [hf]
  cases get h b with
  | none => rfl
  | some blk =>
    cases blk with
    | rows z' l => rfl
    | map es =>
      simp only [mpB, WK]
      rw [W_map, W_some]
      rfl
theorem hf_upd {h : Heap} {n : Nat} {k : V × Heap × Nat → Prop} {t : Tag k} {y v : V} {ag : Bool} {ks : List Nat} {b : Nat} : WK (hf (.upd ag ks) [.hm b, y, v] h n) k t = WK (get h b) (fun blk => mpB blk fun es => Req (noH2 y = true ∧ solid v = true) (WK (findK ag ks y es 0) (fun q => k (.junk, set h b (.map (updQ es y v q)), 0)) ⟨⟩)) ⟨⟩ := by
  unfold WK
  simp only [hf]
  cases get h b with
  | none => rfl
  | some blk =>
    cases blk with
    | rows z' l => rfl
    | map es =>
      simp only [mpB, WK]
      rw [W_ite, W_map, W_some]
      rfl
theorem hf_take {h : Heap} {n : Nat} {k : V × Heap × Nat → Prop} {t : Tag k} {b z i o : Nat} : WK (hf .takeH [.ptr b z i o] h n) k t = WK (get h b) (fun blk => tkB blk z i o fun c l => k (c, set h b (.rows z l), 0)) ⟨⟩ := by
  unfold WK
  simp only [hf]
  cases get h b with
  | none => rfl
  | some blk =>
    cases blk with
    | map es => rfl
    | rows z' l =>
      simp only [tkB, WK]
      rw [W_ite, W_bind, W_some]
      simp only [W_bind, W_ite, W_some]
theorem hf_mkH {h : Heap} {n : Nat} {k : V × Heap × Nat → Prop} {t : Tag k} {z y : Nat} {zero : V} {q q' : IntKind} {m c : Int} : WK (hf (.mkH z y zero) [.int q m, .int q' c] h n) k t = Req (0 ≤ m ∧ m ≤ c ∧ c.toNat * y ≤ 17592186044416 ∧ c ≤ 17592186044416 ∧ zero.cells.length = z ∧ zero.cells.all okCell = true) (k (.hs n z 0 m.toNat, set h n (.rows z (List.replicate m.toNat (clr2 zero))), 1)) := by
  unfold WK
  simp only [hf]; rw [W_ite]; rfl
theorem hf_appL {h : Heap} {n : Nat} {k : V × Heap × Nat → Prop} {t : Tag k} {sz y b z o m z' : Nat} {w : Bool} {l : List V} : WK (hf (.appH sz y) [.hs b z o m, .sl w z' l] h n) k t = Req (z' = sz ∨ l.length = 0) (WK (appB sz y b z o m l h n) k t) := by
  unfold WK
  simp only [hf]; rw [W_ite]
theorem hf_bsH {h : Heap} {n : Nat} {k : V × Heap × Nat → Prop} {t : Tag k} {z m : Nat} {zero : List V} {ps : List Nat} {xs : List V} : WK (hf (.bsliceH z m zero ps) xs h n) k t = Req (0 < z ∧ m * z ≤ 16777216 ∧ zero.length = z ∧ zero.all noH1 = true) (WK (fillH (List.replicate m (ofCells z zero)) z ps xs) (fun l => k (.hs n z 0 m, set h n (.rows z l), 1)) ⟨⟩) := by
  unfold WK
  simp only [hf]; rw [W_ite, W_map]
theorem fillH_nil {l : List V} {z : Nat} {k : List V → Prop} {t : Tag k} : WK (fillH l z [] []) k t = k l := nr rfl
theorem fillH_cons {l : List V} {z i : Nat} {ps : List Nat} {x : V} {xs : List V} {k : List V → Prop} {t : Tag k} : WK (fillH l z (i :: ps) (x :: xs)) k t = Req (x.cells.length = z ∧ i < l.length ∧ solid x = true ∧ x.cells.all okCell = true) (WK (fillH (l.set i (clr2 x)) z ps xs) k t) := by
  unfold WK
  simp only [fillH]; rw [W_ite]
theorem hf_frz {h : Heap} {n : Nat} {k : V × Heap × Nat → Prop} {t : Tag k} {z b o m : Nat} : WK (hf (.frz z) [.hs b z o m] h n) k t = frB h b z o m k := nr rfl
theorem hf_lenM {h : Heap} {n : Nat} {k : V × Heap × Nat → Prop} {t : Tag k} {b : Nat} : WK (hf .lenM [.hm b] h n) k t = WK (get h b) (fun blk => mpB blk fun es => k (.int .i64 es.length, h, 0)) ⟨⟩ := by
  unfold WK
  simp only [hf]
  cases get h b with
  | none => rfl
  | some blk => cases blk <;> rfl
theorem hf_lookT {h : Heap} {n : Nat} {k : V × Heap × Nat → Prop} {t : Tag k} {z y : V} {ag : Bool} {ks : List Nat} {b : Nat} : WK (hf (.lookT z ag ks) [.hm b, y] h n) k t = WK (get h b) (fun blk => mpB blk fun es => Req (noH2 y = true) (WK (findK ag ks y es 0) (fun q => lkT z y es q b h k) ⟨⟩)) ⟨⟩ := by
  unfold WK
  simp only [hf]
  cases get h b with
  | none => rfl
  | some blk =>
    cases blk with
    | rows z' l => rfl
    | map es =>
      simp only [mpB, WK]
      rw [W_ite, W_map, W_some]
      congr 1
      cases findK ag ks y es 0 with
      | none => rfl
      | some q => cases q <;> rfl
theorem hf_clear {h : Heap} {n : Nat} {k : V × Heap × Nat → Prop} {t : Tag k} {sz : Nat} {zero : V} {b z o m : Nat} : WK (hf (.clearH sz zero) [.hs b z o m] h n) k t = Req (z = sz) (WK (get h b) (fun blk => clB blk sz o m zero fun l => k (.tup [], set h b (.rows sz l), 0)) ⟨⟩) := by
  unfold WK
  simp only [hf]
  rw [W_ite]
  cases get h b with
  | none => rfl
  | some blk =>
    cases blk with
    | map es => rfl
    | rows z' l =>
      simp only [clB, WK]
      rw [W_ite, W_some, W_some]
theorem clB_rows {z' sz o m : Nat} {l : List V} {zero : V} {k : List V → Prop} : clB (.rows z' l) sz o m zero k = Req (z' = sz ∧ o + m ≤ l.length ∧ zero.cells.length = sz ∧ noH2 zero = true ∧ zero.cells.all okCell = true) (k (l.take o ++ List.replicate m (clr2 zero) ++ l.drop (o + m))) := nr rfl
theorem tkB_rows {z' : Nat} {l : List V} {z i o : Nat} {k : V → List V → Prop} : tkB (.rows z' l) z i o k = Req (z = z') (WK l[i]? (fun row => WK row.cells[o]? (fun c => Req (okCell c = true) (k c (l.set i (reRow row (row.cells.take o ++ [clr1 c] ++ row.cells.drop (o + 1)))))) ⟨⟩) ⟨⟩) := nr rfl
theorem ldB_rows {z' : Nat} {l : List V} {z i o : Nat} {m : Option Nat} {k : V → Prop} : ldB (.rows z' l) z i o m k = Req (z = z') (WK l[i]? (fun row => WK (part row.cells o m) k ⟨⟩) ⟨⟩) := nr rfl
theorem stB_rows {z' : Nat} {l : List V} {z i o m : Nat} {y : V} {k : List V → Prop} : stB (.rows z' l) z i o m y k = Req (z = z' ∧ y.cells.length = m ∧ o + m ≤ z ∧ solid y = true ∧ y.cells.all okCell = true) (WK l[i]? (fun row => k (l.set i (reRow row (row.cells.take o ++ y.cells ++ row.cells.drop (o + m))))) ⟨⟩) := nr rfl
theorem mpB_map {es : List (V × V)} {k : List (V × V) → Prop} : mpB (.map es) k = k es := nr rfl
theorem outQ_n {ok : Bool} {z : V} : outQ ok z none = if ok = true then .tup [clr2 z, .bool false] else clr2 z := nr rfl
theorem outQ_s {ok : Bool} {z v : V} {i : Nat} : outQ ok z (some (i, v)) = if ok = true then .tup [clr2 v, .bool true] else clr2 v := nr rfl
theorem updQ_n {es : List (V × V)} {y v : V} : updQ es y v none = es ++ [(clr2 y, v)] := nr rfl
theorem updQ_s {es : List (V × V)} {y v v' : V} {i : Nat} : updQ es y v (some (i, v')) = es.set i (y, v) := nr rfl
theorem reRow_a {cs cs' : List V} : reRow (.agg cs) cs' = .agg cs' := nr rfl
theorem reRow_i {q : IntKind} {m : Int} {c : V} : reRow (.int q m) [c] = c := nr rfl
theorem reRow_b {b : Bool} {c : V} : reRow (.bool b) [c] = c := nr rfl
theorem reRow_s {s : List UInt8} {c : V} : reRow (.str s) [c] = c := nr rfl
theorem noH2_agg {cs : List V} : noH2 (.agg cs) = cs.all noH1 := nr rfl
theorem noH2_sl {o : Bool} {z : Nat} {l : List V} : noH2 (.sl o z l) = true := nr rfl
theorem reRow_hs {b z o m : Nat} {c : V} : reRow (.hs b z o m) [c] = c := nr rfl
theorem reRow_sl {o : Bool} {z : Nat} {l : List V} {c : V} : reRow (.sl o z l) [c] = c := nr rfl
theorem noH2_str {s : List UInt8} : noH2 (.str s) = true := nr rfl
theorem noH2_int {q : IntKind} {m : Int} : noH2 (.int q m) = true := nr rfl
theorem noH2_bool {b : Bool} : noH2 (.bool b) = true := nr rfl
theorem getJ_cons {a m : Nat} {x : V} {l : List (Nat × V)} : getJ ((a, x) :: l) m = if m = a then x else getJ l m := nr rfl
theorem set_nil {α : Type} {m : Nat} {x : α} : set ([] : List (Nat × α)) m x = [(m, x)] := nr rfl
theorem set_cons {α : Type} {a m : Nat} {x y : α} {l : List (Nat × α)} : set ((a, x) :: l) m y = if m < a then (m, y) :: (a, x) :: l else if m = a then (m, y) :: l else (a, x) :: set l m y := nr rfl
theorem get_cons {α : Type} {a m : Nat} {x : α} {l : List (Nat × α)} : get ((a, x) :: l) m = if m = a then some x else get l m := nr rfl
theorem keep_nil {α : Type} {ks : List Nat} : keep ks ([] : List (Nat × α)) = [] := nr rfl
theorem keep_cons {α : Type} {ks : List Nat} {a : Nat} {x : α} {l : List (Nat × α)} : keep ks ((a, x) :: l) = if hasN ks a = true then (a, x) :: keep ks l else keep ks l := by simp only [keep, List.filter_cons, hasN_eq]
theorem hasN_nil {a : Nat} : hasN [] a = false := nr rfl
theorem hasN_cons {a b : Nat} {l : List Nat} : hasN (b :: l) a = if a = b then true else hasN l a := nr rfl
theorem ev_t {env : List (Nat × V)} {m : Nat} : evE env (.t m) = clr (getJ env m) := nr rfl
theorem ev_m {env : List (Nat × V)} {m : Nat} : evE env (.m m) = getJ env m := nr rfl
theorem ev_c {env : List (Nat × V)} {x : V} : evE env (.c x) = x := nr rfl
theorem evs_nil {env : List (Nat × V)} : evsE env [] = [] := nr rfl
theorem evs_cons {env : List (Nat × V)} {x : Opd} {l : List Opd} : evsE env (x :: l) = evE env x :: evsE env l := nr rfl
theorem mv_nil {env e : List (Nat × V)} : mvE env [] e = e := nr rfl
theorem mv_t {env e : List (Nat × V)} {m : Nat} {l : List Opd} : mvE env (.t m :: l) e = mvE env l e := nr rfl
theorem mv_c {env e : List (Nat × V)} {x : V} {l : List Opd} : mvE env (.c x :: l) e = mvE env l e := nr rfl
theorem mv_m {env e : List (Nat × V)} {m : Nat} {l : List Opd} : mvE env (.m m :: l) e = mvE env l (mv1 e m (get env m)) := by simp only [mvE]; cases get env m <;> rfl
theorem mv1_some {e : List (Nat × V)} {m : Nat} {x : V} : mv1 e m (some x) = set e m (clr x) := nr rfl
theorem put_none {env : List (Nat × V)} {x : V} : putE env none x = env := nr rfl
theorem put_some {env : List (Nat × V)} {m : Nat} {x : V} : putE env (some m) x = set env m x := nr rfl
theorem lk_cons {a m : Nat} {x : V} {l : List (Nat × V)} : lk ((a, x) :: l) m = if m = a then x else lk l m := by simp only [lk, lkO]; split <;> rfl
theorem lkO_cons {a m : Nat} {x : V} {l : List (Nat × V)} : lkO ((a, x) :: l) m = if m = a then some x else lkO l m := nr rfl
theorem lkO_nil {m : Nat} : lkO [] m = none := nr rfl
theorem sel_nil {l : List (Nat × V)} : sel [] l = [] := nr rfl
theorem sel_cons {j : Nat} {ks : List Nat} {l : List (Nat × V)} : sel (j :: ks) l = selc j (lkO l j) (sel ks l) := nr rfl
theorem selc_some {j : Nat} {x : V} {l : List (Nat × V)} : selc j (some x) l = (j, x) :: l := nr rfl
theorem selc_none {j : Nat} {l : List (Nat × V)} : selc j none l = l := nr rfl
theorem put_cn {l : List (Nat × V)} {m : Nat} {x : V} : putE (cn l) (some m) x = cn ((m, x) :: l) := nr rfl
theorem mv1_cn {l : List (Nat × V)} {m : Nat} {x : V} : mv1 (cn l) m (some x) = cn ((m, clr x) :: l) := nr rfl
theorem init_nil {i : Nat} : initE i [] = [] := nr rfl
theorem init_cons {i : Nat} {x : V} {l : List V} : initE i (x :: l) = (i, x) :: initE (i + 1) l := nr rfl
end
theorem boxW_eq {y : V} {k : List V → Prop} : boxW y k = Req (solid y = true ∧ y.cells.all okCell = true) (k y.cells) := nr rfl
theorem exA : True := trivial
/-- All rules together. -/
theorem ex : type_of% (And.intro (And.intro (And.intro (And.intro (And.intro (And.intro (And.intro (And.intro @Req_true (And.intro @Req_and @ifB_true)) (And.intro @ifB_false (And.intro @ifB_not @WK_map))) (And.intro (And.intro @WK_bind (And.intro @WK_some @WK_none)) (And.intro (And.intro @WK_ite @tst_t) (And.intro @tst_f @tst_u)))) (And.intro (And.intro (And.intro @L_nil (And.intro @L_none @L_some)) (And.intro @D_nil (And.intro @D_none @D_some))) (And.intro (And.intro @P_p (And.intro @P_a @P_call)) (And.intro (And.intro @P_h @P_callH) (And.intro @P_extr @P_box))))) (And.intro (And.intro (And.intro (And.intro @P_ldF (And.intro @P_ldT @P_st)) (And.intro @D_p (And.intro @D_a @D_call))) (And.intro (And.intro @D_h (And.intro @D_callH @D_extr)) (And.intro (And.intro @D_box @D_ldF) (And.intro @D_ldT @D_st)))) (And.intro (And.intro (And.intro @exV_tup (And.intro @exW_bool @exW_int)) (And.intro (And.intro @exW_str @exW_agg) (And.intro @exW_sl @exW_nili))) (And.intro (And.intro @exW_nilp (And.intro @exW_nilm @exW_iface)) (And.intro (And.intro @exW_hm @exW_hs) (And.intro @ldF_ptr @ldT_ptr)))))) (And.intro (And.intro (And.intro (And.intro (And.intro @stF_ptr (And.intro @seqQ_n @seqQ_x)) (And.intro @seqQ_r (And.intro @cutQ_n @cutQ_x))) (And.intro (And.intro @cutQ_r (And.intro @blkQ_n @blkQ_x)) (And.intro (And.intro @blkQ_r @loopQ_n) (And.intro @loopQ_x @loopQ_r)))) (And.intro (And.intro (And.intro @C_skip (And.intro @C_ret @C_exit)) (And.intro (And.intro @C_reg @C_regD) (And.intro @C_seq @C_cut))) (And.intro (And.intro @C_block (And.intro @cndW_bool @C_cond)) (And.intro (And.intro @ldR_ptr @resE_nil) (And.intro @resE_t @resE_cell))))) (And.intro (And.intro (And.intro (And.intro @endQ_n (And.intro @endQ_r @outV_one)) (And.intro @outV_two (And.intro @pf_mv @pf_same))) (And.intro (And.intro @pf_pick (And.intro @pf_ar_add @pf_arw_add)) (And.intro (And.intro @pf_ar_sub @pf_arw_sub) (And.intro @pf_ar_mul @pf_arw_mul)))) (And.intro (And.intro (And.intro @pf_quo (And.intro @pf_rem @pf_bits)) (And.intro (And.intro @pf_sh @pf_cmp_eql) (And.intro @pf_cmp_neq @pf_cmp_lss))) (And.intro (And.intro @pf_cmp_leq (And.intro @pf_cmp_gtr @pf_cmp_geq)) (And.intro (And.intro @pf_scmp_eql @pf_scmp_neq) (And.intro @pf_scmp_lss @pf_scmp_leq))))))) (And.intro (And.intro (And.intro (And.intro (And.intro (And.intro @pf_scmp_gtr (And.intro @pf_scmp_geq @pf_sadd)) (And.intro @pf_eqB (And.intro @pf_neB @pf_eqA))) (And.intro (And.intro @pf_neA (And.intro @pf_not @pf_neg)) (And.intro (And.intro @pf_lenS @pf_lenL) (And.intro @pf_lenH @pf_min)))) (And.intro (And.intro (And.intro @pf_max (And.intro @pf_conv @pf_b2s)) (And.intro @pf_sidx (And.intro @pf_faddrP @pf_faddrF))) (And.intro (And.intro @pf_field (And.intro @pf_iaddr @pf_iaddrH)) (And.intro (And.intro @pf_aaddrP @pf_aaddrF) (And.intro @pf_aidx @pf_loadF))))) (And.intro (And.intro (And.intro (And.intro @pf_nckP (And.intro @pf_nckF @pf_nckN)) (And.intro @pf_ssub_ff (And.intro @pf_ssub_tf @pf_ssub_ft))) (And.intro (And.intro @pf_ssub_tt (And.intro @pf_sub_ff @pf_sub_tf)) (And.intro (And.intro @pf_sub_ft @pf_sub_tt) (And.intro @pf_sub_ftt @pf_sub_ttt)))) (And.intro (And.intro (And.intro @pf_subH_tf (And.intro @pf_subH_ft @pf_build)) (And.intro (And.intro @fillP_nil @fillP_cons) (And.intro @pf_mkfn @pf_mkif))) (And.intro (And.intro @eqL_nil (And.intro @eqL_b @eqL_i)) (And.intro (And.intro @eqL_s @part_n) (And.intro @part_s @af_app)))))) (And.intro (And.intro (And.intro (And.intro (And.intro @af_apps (And.intro @af_s2b @af_mk)) (And.intro @af_bs (And.intro @fillE_nil @fillE_cons))) (And.intro (And.intro @clr_junk (And.intro @clr1_junk @clr2_junk)) (And.intro (And.intro @cells_junk @solid_junk) (And.intro @okCell_junk @clr_bool)))) (And.intro (And.intro (And.intro @clr1_bool (And.intro @clr2_bool @cells_bool)) (And.intro (And.intro @solid_bool @okCell_bool) (And.intro @clr_int @clr1_int))) (And.intro (And.intro @clr2_int (And.intro @cells_int @solid_int)) (And.intro (And.intro @okCell_int @clr_str) (And.intro @clr1_str @clr2_str))))) (And.intro (And.intro (And.intro (And.intro @cells_str (And.intro @solid_str @okCell_str)) (And.intro @clr_nilp (And.intro @clr1_nilp @clr2_nilp))) (And.intro (And.intro @cells_nilp (And.intro @solid_nilp @okCell_nilp)) (And.intro (And.intro @clr_ptr @clr1_ptr) (And.intro @clr2_ptr @cells_ptr)))) (And.intro (And.intro (And.intro @solid_ptr (And.intro @okCell_ptr @clr_fptr)) (And.intro (And.intro @clr1_fptr @clr2_fptr) (And.intro @cells_fptr @solid_fptr))) (And.intro (And.intro @okCell_fptr (And.intro @clr_hs @clr1_hs)) (And.intro (And.intro @clr2_hs @cells_hs) (And.intro @solid_hs @okCell_hs)))))))) (And.intro (And.intro (And.intro (And.intro (And.intro (And.intro (And.intro @clr_nilm (And.intro @clr1_nilm @clr2_nilm)) (And.intro @cells_nilm (And.intro @solid_nilm @okCell_nilm))) (And.intro (And.intro @clr_hm (And.intro @clr1_hm @clr2_hm)) (And.intro (And.intro @cells_hm @solid_hm) (And.intro @okCell_hm @clr_fn)))) (And.intro (And.intro (And.intro @clr1_fn (And.intro @clr2_fn @cells_fn)) (And.intro @solid_fn (And.intro @okCell_fn @clr_nilf))) (And.intro (And.intro @clr1_nilf (And.intro @clr2_nilf @cells_nilf)) (And.intro (And.intro @solid_nilf @okCell_nilf) (And.intro @clr_iface @clr1_iface))))) (And.intro (And.intro (And.intro (And.intro @clr2_iface (And.intro @cells_iface @solid_iface)) (And.intro @okCell_iface (And.intro @clr_nili @clr1_nili))) (And.intro (And.intro @clr2_nili (And.intro @cells_nili @solid_nili)) (And.intro (And.intro @okCell_nili @noH1_bool) (And.intro @noH1_int @noH1_str)))) (And.intro (And.intro (And.intro @noH1_nilp (And.intro @noH1_fptr @noH1_nilm)) (And.intro (And.intro @noH1_nilf @noH1_nili) (And.intro @noH1_sl @ofC1))) (And.intro (And.intro @ofC2 (And.intro @z_rep1 @z_rep2)) (And.intro (And.intro @z_rep3 @z_rep4) (And.intro @z_rep5 @z_rep6)))))) (And.intro (And.intro (And.intro (And.intro (And.intro @z_rep7 (And.intro @z_rep8 @z_rep9)) (And.intro @z_rep10 (And.intro @z_rep11 @z_rep12))) (And.intro (And.intro @clr_sl (And.intro @clr1_sl @clr2_sl)) (And.intro (And.intro @cells_sl @solid_sl) (And.intro @okCell_sl @clr_agg)))) (And.intro (And.intro (And.intro @clr2_agg (And.intro @clr_tup @cells_agg)) (And.intro (And.intro @solid_agg @okCell_agg) (And.intro @cells_tup @pick_t))) (And.intro (And.intro @pick_f (And.intro @pick_bb @z_ift)) (And.intro (And.intro @z_iff @z_iftP) (And.intro @z_iffP @z_iftB))))) (And.intro (And.intro (And.intro (And.intro @z_iffB (And.intro @z_eqN @z_eqI)) (And.intro @z_eqV (And.intro @z_eqB @z_eqL))) (And.intro (And.intro @z_tand (And.intro @z_andt @z_fand)) (And.intro (And.intro @z_andf @z_nt) (And.intro @z_nf @z_neq)))) (And.intro (And.intro (And.intro @z_ff (And.intro @z_dt @z_df)) (And.intro (And.intro @z_dnot @z_bnt) (And.intro @z_bnf @z_bnn))) (And.intro (And.intro @z_bat (And.intro @z_bta @z_bfa)) (And.intro (And.intro @z_baf @z_tn) (And.intro @z_tn1 @z_tn2))))))) (And.intro (And.intro (And.intro (And.intro (And.intro (And.intro @z_na (And.intro @z_an @z_mz)) (And.intro @z_zm (And.intro @z_le @z_leI))) (And.intro (And.intro @z_0le (And.intro @z_0leN @z_mapc)) (And.intro (And.intro @z_mapn @z_lenc) (And.intro @z_lenn @z_lenm)))) (And.intro (And.intro (And.intro @z_lenr (And.intro @z_lenu @z_lenuc)) (And.intro @z_getz (And.intro @z_gets @z_getm))) (And.intro (And.intro @z_setz (And.intro @z_sets @z_allc)) (And.intro (And.intro @z_alln @z_tkz) (And.intro @z_tks @z_tkn))))) (And.intro (And.intro (And.intro (And.intro @z_drz (And.intro @z_drs @z_drn)) (And.intro @z_apn (And.intro @z_apc @z_nap))) (And.intro (And.intro @z_drm (And.intro @z_tkm @z_repz)) (And.intro (And.intro @hf_boxH @hf_alloc) (And.intro @hf_load @hf_store)))) (And.intro (And.intro (And.intro @hf_mkMap (And.intro @hf_lookN @hf_look)) (And.intro (And.intro @hf_upd @hf_take) (And.intro @hf_mkH @hf_appL))) (And.intro (And.intro @hf_bsH (And.intro @fillH_nil @fillH_cons)) (And.intro (And.intro @hf_frz @hf_lenM) (And.intro @hf_lookT @hf_clear)))))) (And.intro (And.intro (And.intro (And.intro (And.intro @clB_rows (And.intro @tkB_rows @ldB_rows)) (And.intro @stB_rows (And.intro @mpB_map @outQ_n))) (And.intro (And.intro @outQ_s (And.intro @updQ_n @updQ_s)) (And.intro (And.intro @reRow_a @reRow_i) (And.intro @reRow_b @reRow_s)))) (And.intro (And.intro (And.intro @noH2_agg (And.intro @noH2_sl @reRow_hs)) (And.intro (And.intro @reRow_sl @noH2_str) (And.intro @noH2_int @noH2_bool))) (And.intro (And.intro @getJ_cons (And.intro @set_nil @set_cons)) (And.intro (And.intro @get_cons @keep_nil) (And.intro @keep_cons @hasN_nil))))) (And.intro (And.intro (And.intro (And.intro @hasN_cons (And.intro @ev_t @ev_m)) (And.intro @ev_c (And.intro @evs_nil @evs_cons))) (And.intro (And.intro @mv_nil (And.intro @mv_t @mv_c)) (And.intro (And.intro @mv_m @put_none) (And.intro @lk_cons @lkO_cons)))) (And.intro (And.intro (And.intro @lkO_nil (And.intro @sel_nil @sel_cons)) (And.intro (And.intro @selc_some @selc_none) (And.intro @put_cn @mv1_cn))) (And.intro (And.intro @init_nil (And.intro @init_cons @set_cn)) (And.intro (And.intro @getJ_cn @get_cn) (And.intro @keep_cn @boxW_eq))))))))) := (And.intro (And.intro (And.intro (And.intro (And.intro (And.intro (And.intro (And.intro @Req_true (And.intro @Req_and @ifB_true)) (And.intro @ifB_false (And.intro @ifB_not @WK_map))) (And.intro (And.intro @WK_bind (And.intro @WK_some @WK_none)) (And.intro (And.intro @WK_ite @tst_t) (And.intro @tst_f @tst_u)))) (And.intro (And.intro (And.intro @L_nil (And.intro @L_none @L_some)) (And.intro @D_nil (And.intro @D_none @D_some))) (And.intro (And.intro @P_p (And.intro @P_a @P_call)) (And.intro (And.intro @P_h @P_callH) (And.intro @P_extr @P_box))))) (And.intro (And.intro (And.intro (And.intro @P_ldF (And.intro @P_ldT @P_st)) (And.intro @D_p (And.intro @D_a @D_call))) (And.intro (And.intro @D_h (And.intro @D_callH @D_extr)) (And.intro (And.intro @D_box @D_ldF) (And.intro @D_ldT @D_st)))) (And.intro (And.intro (And.intro @exV_tup (And.intro @exW_bool @exW_int)) (And.intro (And.intro @exW_str @exW_agg) (And.intro @exW_sl @exW_nili))) (And.intro (And.intro @exW_nilp (And.intro @exW_nilm @exW_iface)) (And.intro (And.intro @exW_hm @exW_hs) (And.intro @ldF_ptr @ldT_ptr)))))) (And.intro (And.intro (And.intro (And.intro (And.intro @stF_ptr (And.intro @seqQ_n @seqQ_x)) (And.intro @seqQ_r (And.intro @cutQ_n @cutQ_x))) (And.intro (And.intro @cutQ_r (And.intro @blkQ_n @blkQ_x)) (And.intro (And.intro @blkQ_r @loopQ_n) (And.intro @loopQ_x @loopQ_r)))) (And.intro (And.intro (And.intro @C_skip (And.intro @C_ret @C_exit)) (And.intro (And.intro @C_reg @C_regD) (And.intro @C_seq @C_cut))) (And.intro (And.intro @C_block (And.intro @cndW_bool @C_cond)) (And.intro (And.intro @ldR_ptr @resE_nil) (And.intro @resE_t @resE_cell))))) (And.intro (And.intro (And.intro (And.intro @endQ_n (And.intro @endQ_r @outV_one)) (And.intro @outV_two (And.intro @pf_mv @pf_same))) (And.intro (And.intro @pf_pick (And.intro @pf_ar_add @pf_arw_add)) (And.intro (And.intro @pf_ar_sub @pf_arw_sub) (And.intro @pf_ar_mul @pf_arw_mul)))) (And.intro (And.intro (And.intro @pf_quo (And.intro @pf_rem @pf_bits)) (And.intro (And.intro @pf_sh @pf_cmp_eql) (And.intro @pf_cmp_neq @pf_cmp_lss))) (And.intro (And.intro @pf_cmp_leq (And.intro @pf_cmp_gtr @pf_cmp_geq)) (And.intro (And.intro @pf_scmp_eql @pf_scmp_neq) (And.intro @pf_scmp_lss @pf_scmp_leq))))))) (And.intro (And.intro (And.intro (And.intro (And.intro (And.intro @pf_scmp_gtr (And.intro @pf_scmp_geq @pf_sadd)) (And.intro @pf_eqB (And.intro @pf_neB @pf_eqA))) (And.intro (And.intro @pf_neA (And.intro @pf_not @pf_neg)) (And.intro (And.intro @pf_lenS @pf_lenL) (And.intro @pf_lenH @pf_min)))) (And.intro (And.intro (And.intro @pf_max (And.intro @pf_conv @pf_b2s)) (And.intro @pf_sidx (And.intro @pf_faddrP @pf_faddrF))) (And.intro (And.intro @pf_field (And.intro @pf_iaddr @pf_iaddrH)) (And.intro (And.intro @pf_aaddrP @pf_aaddrF) (And.intro @pf_aidx @pf_loadF))))) (And.intro (And.intro (And.intro (And.intro @pf_nckP (And.intro @pf_nckF @pf_nckN)) (And.intro @pf_ssub_ff (And.intro @pf_ssub_tf @pf_ssub_ft))) (And.intro (And.intro @pf_ssub_tt (And.intro @pf_sub_ff @pf_sub_tf)) (And.intro (And.intro @pf_sub_ft @pf_sub_tt) (And.intro @pf_sub_ftt @pf_sub_ttt)))) (And.intro (And.intro (And.intro @pf_subH_tf (And.intro @pf_subH_ft @pf_build)) (And.intro (And.intro @fillP_nil @fillP_cons) (And.intro @pf_mkfn @pf_mkif))) (And.intro (And.intro @eqL_nil (And.intro @eqL_b @eqL_i)) (And.intro (And.intro @eqL_s @part_n) (And.intro @part_s @af_app)))))) (And.intro (And.intro (And.intro (And.intro (And.intro @af_apps (And.intro @af_s2b @af_mk)) (And.intro @af_bs (And.intro @fillE_nil @fillE_cons))) (And.intro (And.intro @clr_junk (And.intro @clr1_junk @clr2_junk)) (And.intro (And.intro @cells_junk @solid_junk) (And.intro @okCell_junk @clr_bool)))) (And.intro (And.intro (And.intro @clr1_bool (And.intro @clr2_bool @cells_bool)) (And.intro (And.intro @solid_bool @okCell_bool) (And.intro @clr_int @clr1_int))) (And.intro (And.intro @clr2_int (And.intro @cells_int @solid_int)) (And.intro (And.intro @okCell_int @clr_str) (And.intro @clr1_str @clr2_str))))) (And.intro (And.intro (And.intro (And.intro @cells_str (And.intro @solid_str @okCell_str)) (And.intro @clr_nilp (And.intro @clr1_nilp @clr2_nilp))) (And.intro (And.intro @cells_nilp (And.intro @solid_nilp @okCell_nilp)) (And.intro (And.intro @clr_ptr @clr1_ptr) (And.intro @clr2_ptr @cells_ptr)))) (And.intro (And.intro (And.intro @solid_ptr (And.intro @okCell_ptr @clr_fptr)) (And.intro (And.intro @clr1_fptr @clr2_fptr) (And.intro @cells_fptr @solid_fptr))) (And.intro (And.intro @okCell_fptr (And.intro @clr_hs @clr1_hs)) (And.intro (And.intro @clr2_hs @cells_hs) (And.intro @solid_hs @okCell_hs)))))))) (And.intro (And.intro (And.intro (And.intro (And.intro (And.intro (And.intro @clr_nilm (And.intro @clr1_nilm @clr2_nilm)) (And.intro @cells_nilm (And.intro @solid_nilm @okCell_nilm))) (And.intro (And.intro @clr_hm (And.intro @clr1_hm @clr2_hm)) (And.intro (And.intro @cells_hm @solid_hm) (And.intro @okCell_hm @clr_fn)))) (And.intro (And.intro (And.intro @clr1_fn (And.intro @clr2_fn @cells_fn)) (And.intro @solid_fn (And.intro @okCell_fn @clr_nilf))) (And.intro (And.intro @clr1_nilf (And.intro @clr2_nilf @cells_nilf)) (And.intro (And.intro @solid_nilf @okCell_nilf) (And.intro @clr_iface @clr1_iface))))) (And.intro (And.intro (And.intro (And.intro @clr2_iface (And.intro @cells_iface @solid_iface)) (And.intro @okCell_iface (And.intro @clr_nili @clr1_nili))) (And.intro (And.intro @clr2_nili (And.intro @cells_nili @solid_nili)) (And.intro (And.intro @okCell_nili @noH1_bool) (And.intro @noH1_int @noH1_str)))) (And.intro (And.intro (And.intro @noH1_nilp (And.intro @noH1_fptr @noH1_nilm)) (And.intro (And.intro @noH1_nilf @noH1_nili) (And.intro @noH1_sl @ofC1))) (And.intro (And.intro @ofC2 (And.intro @z_rep1 @z_rep2)) (And.intro (And.intro @z_rep3 @z_rep4) (And.intro @z_rep5 @z_rep6)))))) (And.intro (And.intro (And.intro (And.intro (And.intro @z_rep7 (And.intro @z_rep8 @z_rep9)) (And.intro @z_rep10 (And.intro @z_rep11 @z_rep12))) (And.intro (And.intro @clr_sl (And.intro @clr1_sl @clr2_sl)) (And.intro (And.intro @cells_sl @solid_sl) (And.intro @okCell_sl @clr_agg)))) (And.intro (And.intro (And.intro @clr2_agg (And.intro @clr_tup @cells_agg)) (And.intro (And.intro @solid_agg @okCell_agg) (And.intro @cells_tup @pick_t))) (And.intro (And.intro @pick_f (And.intro @pick_bb @z_ift)) (And.intro (And.intro @z_iff @z_iftP) (And.intro @z_iffP @z_iftB))))) (And.intro (And.intro (And.intro (And.intro @z_iffB (And.intro @z_eqN @z_eqI)) (And.intro @z_eqV (And.intro @z_eqB @z_eqL))) (And.intro (And.intro @z_tand (And.intro @z_andt @z_fand)) (And.intro (And.intro @z_andf @z_nt) (And.intro @z_nf @z_neq)))) (And.intro (And.intro (And.intro @z_ff (And.intro @z_dt @z_df)) (And.intro (And.intro @z_dnot @z_bnt) (And.intro @z_bnf @z_bnn))) (And.intro (And.intro @z_bat (And.intro @z_bta @z_bfa)) (And.intro (And.intro @z_baf @z_tn) (And.intro @z_tn1 @z_tn2))))))) (And.intro (And.intro (And.intro (And.intro (And.intro (And.intro @z_na (And.intro @z_an @z_mz)) (And.intro @z_zm (And.intro @z_le @z_leI))) (And.intro (And.intro @z_0le (And.intro @z_0leN @z_mapc)) (And.intro (And.intro @z_mapn @z_lenc) (And.intro @z_lenn @z_lenm)))) (And.intro (And.intro (And.intro @z_lenr (And.intro @z_lenu @z_lenuc)) (And.intro @z_getz (And.intro @z_gets @z_getm))) (And.intro (And.intro @z_setz (And.intro @z_sets @z_allc)) (And.intro (And.intro @z_alln @z_tkz) (And.intro @z_tks @z_tkn))))) (And.intro (And.intro (And.intro (And.intro @z_drz (And.intro @z_drs @z_drn)) (And.intro @z_apn (And.intro @z_apc @z_nap))) (And.intro (And.intro @z_drm (And.intro @z_tkm @z_repz)) (And.intro (And.intro @hf_boxH @hf_alloc) (And.intro @hf_load @hf_store)))) (And.intro (And.intro (And.intro @hf_mkMap (And.intro @hf_lookN @hf_look)) (And.intro (And.intro @hf_upd @hf_take) (And.intro @hf_mkH @hf_appL))) (And.intro (And.intro @hf_bsH (And.intro @fillH_nil @fillH_cons)) (And.intro (And.intro @hf_frz @hf_lenM) (And.intro @hf_lookT @hf_clear)))))) (And.intro (And.intro (And.intro (And.intro (And.intro @clB_rows (And.intro @tkB_rows @ldB_rows)) (And.intro @stB_rows (And.intro @mpB_map @outQ_n))) (And.intro (And.intro @outQ_s (And.intro @updQ_n @updQ_s)) (And.intro (And.intro @reRow_a @reRow_i) (And.intro @reRow_b @reRow_s)))) (And.intro (And.intro (And.intro @noH2_agg (And.intro @noH2_sl @reRow_hs)) (And.intro (And.intro @reRow_sl @noH2_str) (And.intro @noH2_int @noH2_bool))) (And.intro (And.intro @getJ_cons (And.intro @set_nil @set_cons)) (And.intro (And.intro @get_cons @keep_nil) (And.intro @keep_cons @hasN_nil))))) (And.intro (And.intro (And.intro (And.intro @hasN_cons (And.intro @ev_t @ev_m)) (And.intro @ev_c (And.intro @evs_nil @evs_cons))) (And.intro (And.intro @mv_nil (And.intro @mv_t @mv_c)) (And.intro (And.intro @mv_m @put_none) (And.intro @lk_cons @lkO_cons)))) (And.intro (And.intro (And.intro @lkO_nil (And.intro @sel_nil @sel_cons)) (And.intro (And.intro @selc_some @selc_none) (And.intro @put_cn @mv1_cn))) (And.intro (And.intro @init_nil (And.intro @init_cons @set_cn)) (And.intro (And.intro @getJ_cn @get_cn) (And.intro @keep_cn @boxW_eq)))))))))
end Go.Proofs.Ythphnacnjbcpiaa.E

/- The engine, part AG: abstract code is run outright: what comes out is what the code means. Conditions: none. -/
namespace Go.Proofs.Ythphnacnjbcpiaa.E
set_option linter.unusedVariables false

abbrev Call3 := Nat → Nat → List V → Heap → Nat → Option (V × Heap × Nat)
def evO (C : Call3) (o : AOp) (st : St) : Option St := match o.k with
  | .call f v args => if (args.map st.ev).all noH = true then (C f v (args.map st.ev) [] 0).bind fun q => if noH q.1 = true then some (st.app ⟨st.moves args ++ dstw o.dst q.1, [], 0, none⟩) else none else none
  | .callH v x args => match st.ev x with
    | .fn f cap => (C f v (args.map st.ev ++ cap.map clr) st.heap st.ctr).map fun q => st.app ⟨st.moves args ++ dstw o.dst q.1, [], q.2.2 - st.ctr, some q.2.1⟩
    | _ => none
  | .p f args => (eff ⟨o.dst, none, .p f args⟩ st).map st.app
  | .a f args => (eff ⟨o.dst, none, .a f args⟩ st).map st.app
  | .extr s i => (eff ⟨o.dst, none, .extr s i⟩ st).map st.app
  | .box s x => (eff ⟨o.dst, none, .box s x⟩ st).map st.app
  | .loadL s p n tk => (eff ⟨o.dst, none, .loadL s p n tk⟩ st).map st.app
  | .storeL s n p x => (eff ⟨o.dst, none, .storeL s n p x⟩ st).map st.app
  | .h f args => (eff ⟨o.dst, none, .h f args⟩ st).map st.app
def evL (C : Call3) : List AOp → St → Option St
  | [], st => some st
  | o :: r, st => (wantedA st o.guard).bind fun b => if b = true then (evO C o st).bind (evL C r) else evL C r (st.app ⟨dstw o.dst (.tup []), [], 0, none⟩)
def callF (T : Tab) (ev : AC → St → Option (AE × St)) : Call3 := fun f v args h n => match T.ext f args h n with | some q => some q | none => (T.fn f v).bind fun F => if args.length = F.np then (ev F.code ⟨initE 0 args, [], h, n⟩).bind fun q => (match q.1 with
  | .normal | .ret => (resL q.2 F.res).map fun rs => (outV rs, q.2.heap, q.2.ctr)
  | .exit _ => none) else none
/-- One layer of code. -/
def evS (T : Tab) (ev : AC → St → Option (AE × St)) : AC → St → Option (AE × St)
  | .skip, st => some (.normal, st)
  | .reg _ ops, st => (evL (callF T ev) ops st).map fun st => (.normal, st)
  | .seq a b, st => (ev a st).bind fun q => (match q.1 with | .normal => ev b q.2 | .exit i => some (.exit i, q.2) | .ret => some (.ret, q.2))
  | .cut ke kl a, st => (ev a st).map fun q => (match q.1 with | .normal => (.normal, q.2.norm ke kl) | .exit i => (.exit i, q.2) | .ret => (.ret, q.2))
  | .cond c x y, st => (match st.ev c with | .bool b => if b = true then ev x st else ev y st | _ => none)
  | .block id c, st => (ev c st).map fun q => (match q.1 with | .exit i => if i = id then (.normal, q.2) else (.exit i, q.2) | .normal => (.normal, q.2) | .ret => (.ret, q.2))
  | .loop ke kl c, st => (ev c (st.norm ke kl)).bind fun q => (match q.1 with | .normal => ev (.loop ke kl c) q.2 | .exit i => some (.exit i, q.2) | .ret => some (.ret, q.2))
  | .exit id, st => some (.exit id, st)
  | .ret, st => some (.ret, st)
noncomputable def evC (T : Tab) (k : Nat) : AC → St → Option (AE × St) := Nat.rec (fun _ _ => none) (fun _ ih => evS T ih) k
noncomputable def evF (T : Tab) (k : Nat) : Call3 := callF T (evC T k)

section
variable {T : Tab} {X : Sem3}

def GoodC (X : Sem3) (C : Call3) : Prop := ∀ f v a h n q, C f v a h n = some q → X f v a h n (fun r h' n' => r = q.1 ∧ h' = q.2.1 ∧ n' = q.2.2)
def GoodE (X : Sem3) (ev : AC → St → Option (AE × St)) : Prop := ∀ c st q, ev c st = some q → ∀ Q : AE → St → Prop, Q q.1 q.2 → wpC X c Q st

theorem evO_ok {C : Call3} (hC : GoodC X C) {o : AOp} {st st' : St} (h : evO C o st = some st') {K : St → Prop} (hK : K st') : wpO X o K st ∧ wpOD X o K st := by
  have he : ∀ e, (eff o st).map st.app = some e → K e → W (eff o st) fun e => K (st.app e) := fun e h1 h2 => by
    obtain ⟨a, ha, rfl⟩ := Option.map_eq_some_iff.1 h1
    rw [ha]; exact h2
  unfold evO at h
  unfold wpO wpOD
  have hef : ∀ k, o.k = k → eff ⟨o.dst, none, k⟩ st = eff o st := fun k hk => by unfold eff; rw [hk]
  cases hk : o.k <;> rw [hk] at h <;> simp only at h ⊢
  case call f v args =>
    split at h <;> first | (cases h; done) | skip
    rename_i ha
    obtain ⟨q, hq, h⟩ := Option.bind_eq_some_iff.1 h
    split at h <;> first | (cases h; done) | skip
    rename_i hn
    injection h with h; subst h
    have hx := hC _ _ _ _ _ _ hq
    exact ⟨⟨ha, _, hx, fun r h n hr => by obtain ⟨rfl, rfl, rfl⟩ := hr; exact ⟨hn, hK⟩⟩, ha, q.1, _, hx, fun r h n hr => hr.1, hn, hK⟩
  case callH v x args =>
    cases hx : st.ev x <;> rw [hx] at h <;> simp only at h ⊢ <;> first | (cases h; done) | skip
    obtain ⟨q, hq, rfl⟩ := Option.map_eq_some_iff.1 h
    have hx := hC _ _ _ _ _ _ hq
    exact ⟨⟨_, hx, fun r h n hr => by obtain ⟨rfl, rfl, rfl⟩ := hr; exact hK⟩, q.1, q.2.1, q.2.2, _, hx, fun r h n hr => hr, hK⟩
  all_goals
    rw [hef _ hk] at h
    exact ⟨he _ h hK, he _ h hK⟩
theorem evL_ok {C : Call3} (hC : GoodC X C) : ∀ (ops : List AOp) {st st' : St}, evL C ops st = some st' → ∀ {K : St → Prop}, K st' → wpL X ops K st ∧ wpLD X ops K st
  | [], st, st', h, K, hK => by simp only [evL, Option.some.injEq] at h; subst h; exact ⟨hK, hK⟩
  | o :: r, st, st', h, K, hK => by
    simp only [evL] at h
    obtain ⟨b, hb, h⟩ := Option.bind_eq_some_iff.1 h
    simp only [wpL, wpLD, hb, W]
    cases b with
    | true =>
      simp only [if_true] at h ⊢
      obtain ⟨s1, h1, h2⟩ := Option.bind_eq_some_iff.1 h
      exact ⟨(evO_ok hC h1 (evL_ok hC r h2 hK).1).1, (evO_ok hC h1 (K := wpLD X r K) (evL_ok hC r h2 hK).2).2⟩
    | false =>
      simp only [Bool.false_eq_true, if_false] at h ⊢
      exact evL_ok hC r h hK
theorem callF_ok {ev : AC → St → Option (AE × St)} (hX : ∀ f v a h n Q, Phi T X f v a h n Q → X f v a h n Q) (hE : GoodE X ev) : GoodC X (callF T ev) := by
  intro f v a h n q hq
  unfold callF at hq
  split at hq
  · rename_i q' he
    injection hq with hq; subst hq
    apply hX
    left
    rw [he]
    exact ⟨rfl, rfl, rfl⟩
  obtain ⟨F, hF, hq⟩ := Option.bind_eq_some_iff.1 hq
  split at hq <;> first | (cases hq; done) | skip
  rename_i hl
  obtain ⟨p, hp, hq⟩ := Option.bind_eq_some_iff.1 hq
  apply hX
  right
  rw [hF]
  refine ⟨hl, hE _ _ _ hp _ ?_⟩
  split at hq <;> first | (cases hq; done) | skip
  all_goals
    rename_i he
    rw [he]
    obtain ⟨rs, hr, rfl⟩ := Option.map_eq_some_iff.1 hq
    simp only [hr, W, and_self]
theorem evS_ok {ev : AC → St → Option (AE × St)} (hX : ∀ f v a h n Q, Phi T X f v a h n Q → X f v a h n Q) (hE : GoodE X ev) : GoodE X (evS T ev) := by
  intro c st q h Q hQ
  cases c with
  | skip => simp only [evS, Option.some.injEq] at h; subst h; exact hQ
  | reg d ops =>
    simp only [evS] at h
    obtain ⟨s, hs, rfl⟩ := Option.map_eq_some_iff.1 h
    have := evL_ok (callF_ok hX hE) ops hs (K := Q .normal) hQ
    cases d
    · exact this.1
    · exact this.2
  | seq a b =>
    simp only [evS] at h
    obtain ⟨p, hp, h⟩ := Option.bind_eq_some_iff.1 h
    refine hE _ _ _ hp _ ?_
    obtain ⟨e, s⟩ := p
    cases e with
    | normal => exact hE _ _ _ h _ hQ
    | exit i => simp only [Option.some.injEq] at h; subst h; exact hQ
    | ret => simp only [Option.some.injEq] at h; subst h; exact hQ
  | cut ke kl a =>
    simp only [evS] at h
    obtain ⟨p, hp, rfl⟩ := Option.map_eq_some_iff.1 h
    refine hE _ _ _ hp _ ?_
    obtain ⟨e, s⟩ := p
    cases e <;> exact hQ
  | cond c x y =>
    simp only [evS] at h
    simp only [wpC]
    cases hb : st.ev c <;> rw [hb] at h <;> first | (cases h; done) | skip
    rename_i b
    cases b with
    | true => exact hE _ _ _ (by simpa using h) _ hQ
    | false => exact hE _ _ _ (by simpa using h) _ hQ
  | block id c =>
    simp only [evS] at h
    obtain ⟨p, hp, rfl⟩ := Option.map_eq_some_iff.1 h
    refine hE _ _ _ hp _ ?_
    obtain ⟨e, s⟩ := p
    cases e with
    | normal => exact hQ
    | ret => exact hQ
    | exit i =>
      simp only at hQ ⊢
      split
      · rename_i e; rw [if_pos e] at hQ; exact hQ
      · rename_i e; rw [if_neg e] at hQ; exact hQ
  | loop ke kl c =>
    simp only [evS] at h
    obtain ⟨p, hp, h⟩ := Option.bind_eq_some_iff.1 h
    intro L hL
    apply hL
    refine hE _ _ _ hp _ ?_
    obtain ⟨e, s⟩ := p
    cases e with
    | normal => exact hE _ _ _ h Q hQ L hL
    | exit i => simp only [Option.some.injEq] at h; subst h; exact hQ
    | ret => simp only [Option.some.injEq] at h; subst h; exact hQ
  | exit id => simp only [evS, Option.some.injEq] at h; subst h; exact hQ
  | ret => simp only [evS, Option.some.injEq] at h; subst h; exact hQ
theorem evC_ok (hX : ∀ f v a h n Q, Phi T X f v a h n Q → X f v a h n Q) : ∀ k, GoodE X (evC T k)
  | 0 => fun c st q h => by cases h
  | k + 1 => evS_ok hX (evC_ok hX k)

/-- Less may be asked of a call. -/
theorem Run.weaken {f v : Nat} {a : List V} {h : Heap} {n : Nat} {Q Q' : V → Heap → Nat → Prop} (hr : Run T f v a h n Q) (hq : ∀ r h n, Q r h n → Q' r h n) : Run T f v a h n Q' := by
  refine hr (fun f v a h n Q => ∀ Q' : V → Heap → Nat → Prop, (∀ r h n, Q r h n → Q' r h n) → Run T f v a h n Q') (fun f v a h n Q hp Q' hq => ?_) Q' hq
  apply Run.fold
  unfold Phi at hp ⊢
  refine hp.imp (fun hw => W.imp (fun q hq' => hq _ _ _ hq') hw) fun hp => W.imp (fun F hF => ⟨hF.1, wpC_mono (fun f v a h n Q hx => hx Q fun _ _ _ h => h) F.code (fun e st he => ?_) hF.2⟩) hp
  cases e with
  | normal => exact W.imp (fun rs hrs => hq _ _ _ hrs) he
  | ret => exact W.imp (fun rs hrs => hq _ _ _ hrs) he
  | exit i => exact he

/-- A call of which a contract is known. -/
theorem run_ext {f v : Nat} {a : List V} {h : Heap} {n : Nat} {q : V × Heap × Nat} (hq : T.ext f a h n = some q) : Run T f v a h n (fun r h' n' => r = q.1 ∧ h' = q.2.1 ∧ n' = q.2.2) :=
  Run.fold T (.inl (by rw [hq]; exact ⟨rfl, rfl, rfl⟩))
/-- A call that is run outright. -/
theorem run_ev {f v : Nat} {a : List V} {h : Heap} {n : Nat} {q : V × Heap × Nat} (k : Nat) (hq : evF T k f v a h n = some q) : Run T f v a h n (fun r h' n' => r = q.1 ∧ h' = q.2.1 ∧ n' = q.2.2) :=
  fun X hX => callF_ok hX (evC_ok hX k) f v a h n q hq
end
end Go.Proofs.Ythphnacnjbcpiaa.E

/- The engine, part AI: maps whose keys are strings, as rows of pairs. Conditions: none. -/
namespace Go.Proofs.Ythphnacnjbcpiaa.E
set_option linter.unusedVariables false

abbrev MS := List (List UInt8 × V)
def emb (m : MS) : List (V × V) := m.map fun p => (.str p.1, p.2)
def fnd : MS → List UInt8 → Nat → Option (Nat × V)
  | [], _, _ => none
  | (a, x) :: r, k, i => if k = a then some (i, x) else fnd r k (i + 1)
def gt : MS → List UInt8 → Option V
  | [], _ => none
  | (a, x) :: r, k => if k = a then some x else gt r k
def ins : MS → List UInt8 → V → MS
  | [], k, v => [(k, v)]
  | (a, x) :: r, k, v => if k = a then (k, v) :: r else (a, x) :: ins r k v
theorem findK_str (k : List UInt8) : ∀ (m : MS) (i : Nat), findK false [2] (.str k) (emb m) i = some (fnd m k i)
  | [], i => rfl
  | (a, x) :: r, i => by
    have ih := findK_str k r (i + 1)
    simp only [emb, List.map_cons, findK, eqV, eq1, Option.bind_some, fnd] at ih ⊢
    by_cases h : k = a
    · simp [h]
    · simp [h, ih]
theorem fnd_gt (k : List UInt8) : ∀ (m : MS) (i : Nat), (fnd m k i).map (·.2) = gt m k
  | [], i => rfl
  | (a, x) :: r, i => by
    simp only [fnd, gt]
    split
    · rfl
    · exact fnd_gt k r (i + 1)
theorem fnd_add (k : List UInt8) : ∀ (m : MS) (i : Nat), fnd m k (i + 1) = (fnd m k i).map fun p => (p.1 + 1, p.2)
  | [], i => rfl
  | (a, x) :: r, i => by
    simp only [fnd]
    split
    · rfl
    · exact fnd_add k r (i + 1)
theorem upd_ins (k : List UInt8) (v : V) : ∀ (m : MS), updQ (emb m) (.str k) v (fnd m k 0) = emb (ins m k v)
  | [] => rfl
  | (a, x) :: r => by
    have ih := upd_ins k v r
    simp only [fnd, ins]
    by_cases h : k = a
    · subst h; simp only [if_true]; rfl
    · rw [if_neg h, if_neg h, fnd_add]
      cases hf : fnd r k 0 with
      | none =>
        rw [hf] at ih
        simp only [updQ, Option.map_none, emb, List.map_cons, List.cons_append] at ih ⊢
        rw [ih]
      | some q =>
        rw [hf] at ih
        simp only [updQ, Option.map_some, emb, List.map_cons, List.set_cons_succ] at ih ⊢
        rw [ih]
theorem gt_ins (k k' : List UInt8) (v : V) : ∀ (m : MS), gt (ins m k v) k' = if k' = k then some v else gt m k'
  | [] => by simp [ins, gt]
  | (a, x) :: r => by
    simp only [ins]
    by_cases h : k = a
    · subst h
      simp only [if_true, gt]
      split <;> rfl
    · rw [if_neg h]
      simp only [gt, gt_ins k k' v r]
      by_cases h2 : k' = a
      · subst h2; rw [if_pos rfl, if_neg fun e => h e.symm, if_pos rfl]
      · rw [if_neg h2, if_neg h2]
theorem outQ_gt (z : V) (m : MS) (k : List UInt8) (i : Nat) : outQ false z (fnd m k i) = clr2 ((gt m k).getD z) := by
  rw [← fnd_gt k m i]
  cases fnd m k i <;> rfl
theorem outQ_gtT (z : V) (m : MS) (k : List UInt8) (i : Nat) : outQ true z (fnd m k i) = .tup [clr2 ((gt m k).getD z), .bool (gt m k).isSome] := by
  rw [← fnd_gt k m i]
  cases fnd m k i <;> rfl
theorem lkT_none {z : V} {m : MS} {k : List UInt8} {b : Nat} {h : Heap} {K : V × Heap × Nat → Prop} (hg : gt m k = none) : lkT z (.str k) (emb m) (fnd m k 0) b h K = K (z, h, 0) := by
  rw [← fnd_gt k m 0] at hg
  cases hf : fnd m k 0 with
  | none => rfl
  | some q => rw [hf] at hg; cases hg
theorem set_ins (k : List UInt8) (v : V) : ∀ (m : MS) (j : Nat) (x : V), fnd m k 0 = some (j, x) → (emb m).set j (.str k, v) = emb (ins m k v) := fun m j x h => by
  have := upd_ins k v m
  rw [h] at this
  exact this
theorem lkT_some {z v : V} {m : MS} {k : List UInt8} {b : Nat} {h : Heap} {K : V × Heap × Nat → Prop} (hg : gt m k = some v) : lkT z (.str k) (emb m) (fnd m k 0) b h K = K (v, set h b (.map (emb (ins m k (clr2 v)))), 0) := by
  rw [← fnd_gt k m 0] at hg
  cases hf : fnd m k 0 with
  | none => rw [hf] at hg; cases hg
  | some q =>
    rw [hf] at hg
    injection hg with hg
    subst hg
    have := set_ins k (clr2 q.2) m q.1 q.2 hf
    simp only [lkT, this]
theorem emb_nil : emb [] = [] := rfl
end Go.Proofs.Ythphnacnjbcpiaa.E
