/- The engine, bundle 4: values as trees, abstract code, and that what abstract code says the machine does. Conditions: none. -/
import Derived.Below
import Derived.Laws.AppendOwn
import Derived.Test.YthphnacnjbcpiaaE3
/- The engine, part AJ: a table of rows that may be written, behind other blocks. Conditions: none. -/
namespace Go.Proofs.Ythphnacnjbcpiaa.E
set_option linter.unusedVariables false

/-- A row of whole numbers. -/
def rowV (k : IntKind) (w : Nat) (f : Nat → Nat → Nat) (i : Nat) : List V := (List.range w).map fun j => .int k (f i j : Nat)
def updF (f : Nat → Nat → Nat) (i j v : Nat) : Nat → Nat → Nat := fun i' j' => if i' = i ∧ j' = j then v else f i' j'
theorem rowV_get {k : IntKind} {w : Nat} {f : Nat → Nat → Nat} {i j : Nat} (h : j < w) : (rowV k w f i)[j]? = some (.int k (f i j : Nat)) := by
  unfold rowV; rw [List.getElem?_map, List.getElem?_range h]; rfl
theorem rowV_len {k : IntKind} {w : Nat} {f : Nat → Nat → Nat} {i : Nat} : (rowV k w f i).length = w := by simp [rowV]
theorem rowV_set {k : IntKind} {w : Nat} {f : Nat → Nat → Nat} {i j v : Nat} : (rowV k w f i).set j (.int k (v : Nat)) = rowV k w (updF f i j v) i := by
  apply List.ext_getElem
  · simp [rowV]
  · intro q h1 h2
    simp only [rowV, List.getElem_set, List.getElem_map, List.getElem_range, updF, true_and]
    by_cases e : j = q
    · subst e; simp
    · rw [if_neg e, if_neg fun e' => e e'.symm]
theorem rowV_other {k : IntKind} {w : Nat} {f : Nat → Nat → Nat} {i i' j v : Nat} (h : i' ≠ i) : rowV k w (updF f i j v) i' = rowV k w f i' := by
  unfold rowV; congr 1; funext q; simp [updF, h]

/-- Blocks behind h: a row of handles under number n, the first m rows behind it. -/
def TB (k : IntKind) (h : Heap) (n m w : Nat) (hs : List V) (f : Nat → Nat → Nat) : Heap := h ++ (n, .rows 1 hs) :: (List.range m).map fun i => (n + 1 + i, .rows 1 (rowV k w f i))
def Low (h : Heap) (n : Nat) : Prop := ∀ p ∈ h, p.1 < n
theorem get_app {h l : Heap} {n k : Nat} (hl : Low h n) (hk : n ≤ k) : get (h ++ l) k = get l k := by
  induction h with
  | nil => rfl
  | cons p h ih =>
    obtain ⟨a, x⟩ := p
    have := hl (a, x) (by simp)
    simp only at this
    rw [List.cons_append, get, if_neg (by omega)]
    exact ih fun q hq => hl q (by simp [hq])
theorem set_app {h l : Heap} {n k : Nat} {x : Blk} (hl : Low h n) (hk : n ≤ k) : set (h ++ l) k x = h ++ set l k x := by
  induction h with
  | nil => rfl
  | cons p h ih =>
    obtain ⟨a, y⟩ := p
    have := hl (a, y) (by simp)
    simp only at this
    rw [List.cons_append, set, if_neg (by omega), if_neg (by omega), List.cons_append]
    congr 1
    exact ih fun q hq => hl q (by simp [hq])
def rws (n : Nat) (g : Nat → Blk) (s m : Nat) : Heap := (List.range' s m).map fun i => (n + i, g i)
theorem get_rws {n : Nat} {g : Nat → Blk} : ∀ {m s i : Nat}, s ≤ i → i < s + m → get (rws n g s m) (n + i) = some (g i)
  | 0, s, i, h1, h2 => by omega
  | m + 1, s, i, h1, h2 => by
    unfold rws
    rw [List.range'_succ, List.map_cons, get]
    by_cases e : i = s
    · subst e; rw [if_pos rfl]
    · rw [if_neg (by omega)]
      exact get_rws (by omega) (by omega)
theorem set_rws {n : Nat} {g : Nat → Blk} {x : Blk} : ∀ {m s i : Nat}, s ≤ i → i < s + m → set (rws n g s m) (n + i) x = rws n (fun j => if j = i then x else g j) s m
  | 0, s, i, h1, h2 => by omega
  | m + 1, s, i, h1, h2 => by
    unfold rws
    rw [List.range'_succ, List.map_cons, List.map_cons, set]
    by_cases e : i = s
    · subst e
      rw [if_neg (by omega), if_pos rfl]
      simp only [if_true]
      congr 1
      apply List.map_congr_left
      intro j hj
      have := (List.mem_range'.1 hj)
      obtain ⟨q, _, rfl⟩ := this
      rw [if_neg (by omega)]
    · rw [if_neg (by omega), if_neg (by omega)]
      have h9 := set_rws (n := n) (g := g) (x := x) (m := m) (s := s + 1) (i := i) (by omega) (by omega)
      unfold rws at h9
      rw [h9]
      congr 1
      simp only
      rw [if_neg fun e' => e e'.symm]
theorem set_rws_new {n : Nat} {g : Nat → Blk} {x : Blk} : ∀ {m s : Nat}, set (rws n g s m) (n + (s + m)) x = rws n (fun j => if j = s + m then x else g j) s (m + 1)
  | 0, s => by simp [rws, set]
  | m + 1, s => by
    have ih := set_rws_new (n := n) (g := g) (x := x) (m := m) (s := s + 1)
    unfold rws at ih ⊢
    rw [List.range'_succ (n := m), List.map_cons, set, if_neg (by omega), if_neg (by omega), List.range'_succ (n := m + 1), List.map_cons]
    rw [show s + (m + 1) = s + 1 + m by omega, ih]
    congr 1
    simp only
    rw [if_neg (by omega)]
theorem TB_eq {k : IntKind} {h : Heap} {n m w : Nat} {hs : List V} {f : Nat → Nat → Nat} : TB k h n m w hs f = h ++ (n, .rows 1 hs) :: rws (n + 1) (fun i => .rows 1 (rowV k w f i)) 0 m := by
  unfold TB rws; rw [List.range_eq_range']
section
variable {k : IntKind} {h : Heap} {n m w : Nat} {hs : List V} {f : Nat → Nat → Nat}
theorem TB_outer (hl : Low h n) : get (TB k h n m w hs f) n = some (.rows 1 hs) := by
  unfold TB; rw [get_app hl (Nat.le_refl _), get, if_pos rfl]
theorem TB_row {i : Nat} (hl : Low h n) (hi : i < m) : get (TB k h n m w hs f) (n + 1 + i) = some (.rows 1 (rowV k w f i)) := by
  rw [TB_eq, get_app hl (by omega), get, if_neg (by omega)]
  exact get_rws (Nat.zero_le _) (by omega)
theorem TB_set_outer {hs' : List V} (hl : Low h n) : set (TB k h n m w hs f) n (.rows 1 hs') = TB k h n m w hs' f := by
  unfold TB; rw [set_app hl (Nat.le_refl _), set, if_neg (by omega), if_pos rfl]
theorem TB_set_row {i j v : Nat} (hl : Low h n) (hi : i < m) : set (TB k h n m w hs f) (n + 1 + i) (.rows 1 ((rowV k w f i).set j (.int k (v : Nat)))) = TB k h n m w hs (updF f i j v) := by
  rw [TB_eq, TB_eq, set_app hl (by omega), set, if_neg (by omega), if_neg (by omega), set_rws (Nat.zero_le _) (by omega)]
  congr 3
  funext q
  by_cases e : q = i
  · subst e; rw [if_pos rfl, rowV_set]
  · rw [if_neg e, rowV_other e]
theorem TB_new (hl : Low h n) (hz : ∀ j, f m j = 0) : set (TB k h n m w hs f) (n + 1 + m) (.rows 1 (List.replicate w (.int k 0))) = TB k h n (m + 1) w hs f := by
  rw [TB_eq, TB_eq, set_app hl (by omega), set, if_neg (by omega), if_neg (by omega)]
  have := set_rws_new (n := n + 1) (g := fun i => .rows 1 (rowV k w f i)) (x := .rows 1 (List.replicate w (.int k 0))) (m := m) (s := 0)
  rw [Nat.zero_add] at this
  rw [this]
  congr 3
  funext q
  by_cases e : q = m
  · subst e
    rw [if_pos rfl]
    congr 1
    apply List.ext_getElem
    · simp [rowV]
    · intro i h1 h2; simp [rowV, hz]
  · rw [if_neg e]
theorem TB_first (hl : Low h n) : set h n (.rows 1 hs) = TB k h n 0 w hs f := by
  unfold TB
  have := set_app (l := []) (x := .rows 1 hs) hl (Nat.le_refl _)
  rw [List.append_nil] at this
  rw [this]
  rfl
end
/-- Appending to rows that may be written. -/
theorem appB_nil {sz y b o n : Nat} {x : V} {l : List V} {h : Heap} {k : V × Heap × Nat → Prop} {t : Tag k} : WK (appB sz y b 0 o 0 (x :: l) h n) k t = Req ((l.length + 1) * y ≤ 17592186044416 ∧ l.length + 1 ≤ 17592186044416) (k (.hs n sz 0 (l.length + 1), set h n (.rows sz ((x :: l).map clr2)), 1)) := by
  unfold appB WK
  rw [if_neg (by simp), W_ite]
  simp only [Nat.zero_add, List.length_cons, if_true, LIM, W]
def apB (blk : Blk) (sz m : Nat) (l' : List V) (k : List V → Prop) : Prop := match blk with
  | .rows z l => Req (z = sz ∧ m ≤ l.length) (k (l.take m ++ l'.map clr2))
  | _ => False
theorem apB_rows {z sz m : Nat} {l l' : List V} {k : List V → Prop} : apB (.rows z l) sz m l' k = Req (z = sz ∧ m ≤ l.length) (k (l.take m ++ l'.map clr2)) := nr rfl
theorem appB_put {sz y b z m n : Nat} {x : V} {l : List V} {h : Heap} {k : V × Heap × Nat → Prop} {t : Tag k} : WK (appB sz y b (z + 1) 0 m (x :: l) h n) k t = Req (z + 1 = sz ∧ (m + (l.length + 1)) * y ≤ 17592186044416 ∧ m + (l.length + 1) ≤ 17592186044416) (WK (get h b) (fun blk => apB blk sz m (x :: l) fun L => k (.hs n sz 0 (m + (l.length + 1)), set (del h b) n (.rows sz L), 1)) ⟨⟩) := by
  unfold appB WK
  rw [if_neg (by simp), W_ite, if_neg (by simp)]
  simp only [List.length_cons, LIM, and_true]
  by_cases e : z + 1 = sz
  · rw [if_pos e]
    cases hg : get h b with
    | none => simp [Req, W]
    | some blk =>
      cases blk with
      | map es => simp [Req, W, apB]
      | rows z' L =>
        simp only [W, apB, Req, e, true_and]
        by_cases c : z' = sz ∧ m ≤ L.length
        · rw [if_pos c]; simp [W, c]
        · rw [if_neg c]; simp [W, c]
  · rw [if_neg e]
    simp [Req, W, e]
theorem appB_none {sz y b z o m n : Nat} {h : Heap} {k : V × Heap × Nat → Prop} {t : Tag k} : WK (appB sz y b z o m [] h n) k t = k (.hs b z o m, h, 0) := nr rfl
theorem del_cons {α : Type} {a m : Nat} {x : α} {l : List (Nat × α)} : del ((a, x) :: l) m = if m = a then l else (a, x) :: del l m := nr rfl
theorem del_app {h l : Heap} {n k : Nat} (hl : Low h n) (hk : n ≤ k) : del (h ++ l) k = h ++ del l k := by
  induction h with
  | nil => rfl
  | cons p h ih =>
    obtain ⟨a, x⟩ := p
    have := hl (a, x) (by simp)
    simp only at this
    rw [List.cons_append, del, if_neg (by omega)]
    rw [ih fun q hq => hl q (by simp [hq])]
    rfl
theorem get_low {h l : Heap} {n k : Nat} (hl : Low h n) (ho : get l k = none) : get (h ++ l) k = get h k := by
  induction h with
  | nil => exact ho
  | cons p h ih =>
    obtain ⟨a, x⟩ := p
    rw [List.cons_append, get, get]
    split
    · rfl
    · exact ih fun q hq => hl q (by simp [hq])
def apH (blk : Blk) (sz o2 m2 : Nat) (k : List V → Prop) : Prop := match blk with
  | .rows z l => Req (z = sz ∧ o2 + m2 ≤ l.length) (k ((l.drop o2).take m2))
  | _ => False
theorem apH_rows {z sz o2 m2 : Nat} {l : List V} {k : List V → Prop} : apH (.rows z l) sz o2 m2 k = Req (z = sz ∧ o2 + m2 ≤ l.length) (k ((l.drop o2).take m2)) := nr rfl
theorem hf_appHs {sz y b z o m b2 z2 o2 m2 : Nat} {h : Heap} {n : Nat} {k : V × Heap × Nat → Prop} {t : Tag k} : WK (hf (.appH sz y) [.hs b z o m, .hs b2 z2 o2 (m2 + 1)] h n) k t = Req (z2 = sz) (WK (get h b2) (fun blk => apH blk sz o2 (m2 + 1) fun l => WK (appB sz y b z o m l h n) k t) ⟨⟩) := by
  simp only [hf, WK]
  rw [if_neg (by simp)]
  by_cases e : z2 = sz
  · rw [if_pos e]
    cases hg : get h b2 with
    | none => simp [Req, W]
    | some blk =>
      cases blk with
      | map es => simp [Req, W, apH]
      | rows z' L =>
        simp only [W, apH, Req, e, true_and]
        by_cases c : z' = sz ∧ o2 + (m2 + 1) ≤ L.length
        · rw [if_pos c]; simp [W, c]
        · rw [if_neg c]; simp [W, c]
  · rw [if_neg e]
    simp [Req, W, e]
theorem get_set_other {h : Heap} {k j : Nat} {x : Blk} (e : j ≠ k) : get (set h k x) j = get h j := by rw [get_set1, if_neg e]
theorem get_set_same {h : Heap} {k : Nat} {x : Blk} : get (set h k x) k = some x := by rw [get_set1, if_pos rfl]
theorem get_del_other1 : ∀ (h : Heap) {k j : Nat}, j ≠ k → get (del h k) j = get h j
  | [], k, j, e => rfl
  | (a, x) :: h, k, j, e => by
    rw [del]
    split
    · rename_i c; rw [get, if_neg (by omega)]
    · rw [get, get, get_del_other1 h e]
end Go.Proofs.Ythphnacnjbcpiaa.E

/- The engine, part AK: what a call ends in is one thing: so a call in a region whose order is open may be spoken of by a relation. Conditions: none. -/
namespace Go.Proofs.Ythphnacnjbcpiaa.E
set_option linter.unusedVariables false

section
variable {T : Tab}
def One (T : Tab) : Sem3 := fun f v a h n Q => ∃ r h' n', Q r h' n' ∧ Run T f v a h n (fun r2 h2 n2 => r2 = r ∧ h2 = h' ∧ n2 = n')
theorem wpO_one {o : AOp} {K : St → Prop} {st : St} (h : wpO (One T) o K st) : ∃ s, K s ∧ wpO (Run T) o (· = s) st ∧ wpOD (Run T) o (· = s) st := by
  unfold wpO at h
  unfold wpO wpOD
  cases hk : o.k <;> rw [hk] at h <;> simp only at h ⊢
  case call f v args =>
    obtain ⟨h0, Q0, ⟨r, h', n', hq, hr⟩, h2⟩ := h
    obtain ⟨h3, h4⟩ := h2 r h' n' hq
    exact ⟨_, h4, ⟨h0, _, hr, fun r2 hp n2 e => by obtain ⟨rfl, rfl, rfl⟩ := e; exact ⟨h3, rfl⟩⟩, h0, r, _, hr, fun r2 hp n2 e => e.1, h3, rfl⟩
  case callH v x args =>
    cases hx : st.ev x <;> rw [hx] at h <;> simp only at h ⊢ <;> first | (exact h.elim) | skip
    obtain ⟨Q0, ⟨r, h', n', hq, hr⟩, h2⟩ := h
    exact ⟨_, h2 r h' n' hq, ⟨_, hr, fun r2 hp n2 e => by obtain ⟨rfl, rfl, rfl⟩ := e; rfl⟩, r, h', n', _, hr, fun r2 hp n2 e => e, rfl⟩
  all_goals
    cases he : eff o st with
    | none => rw [he] at h; exact h.elim
    | some e => rw [he] at h; exact ⟨_, h, rfl, rfl⟩
theorem wpOD_one {o : AOp} {K : St → Prop} {st : St} (h : wpOD (One T) o K st) : ∃ s, K s ∧ wpO (Run T) o (· = s) st ∧ wpOD (Run T) o (· = s) st := by
  unfold wpOD at h
  unfold wpO wpOD
  cases hk : o.k <;> rw [hk] at h <;> simp only at h ⊢
  case call f v args =>
    obtain ⟨h0, r0, Q0, ⟨r, h', n', hq, hr⟩, h2, h3, h4⟩ := h
    have := h2 r h' n' hq
    subst this
    exact ⟨_, h4, ⟨h0, _, hr, fun r2 hp n2 e => by obtain ⟨rfl, rfl, rfl⟩ := e; exact ⟨h3, rfl⟩⟩, h0, r, _, hr, fun r2 hp n2 e => e.1, h3, rfl⟩
  case callH v x args =>
    cases hx : st.ev x <;> rw [hx] at h <;> simp only at h ⊢ <;> first | (exact h.elim) | skip
    obtain ⟨r0, h0, n0, Q0, ⟨r, h', n', hq, hr⟩, h2, h3⟩ := h
    obtain ⟨rfl, rfl, rfl⟩ := h2 r h' n' hq
    exact ⟨_, h3, ⟨_, hr, fun r2 hp n2 e => by obtain ⟨rfl, rfl, rfl⟩ := e; rfl⟩, r, h', n', _, hr, fun r2 hp n2 e => e, rfl⟩
  all_goals
    cases he : eff o st with
    | none => rw [he] at h; exact h.elim
    | some e => rw [he] at h; exact ⟨_, h, rfl, rfl⟩
theorem wpL_one : ∀ (ops : List AOp) {K : St → Prop} {st : St}, wpL (One T) ops K st → ∃ s, K s ∧ wpL (Run T) ops (· = s) st
  | [], K, st, h => ⟨st, h, rfl⟩
  | o :: r, K, st, h => by
    simp only [wpL] at h ⊢
    cases hg : wantedA st o.guard with
    | none => rw [hg] at h; exact h.elim
    | some b =>
      rw [hg] at h
      cases b with
      | false =>
        obtain ⟨s, h1, h2⟩ := wpL_one r (K := K) (by simpa [W] using h)
        exact ⟨s, h1, by simpa [W] using h2⟩
      | true =>
        have h : wpO (One T) o (wpL (One T) r K) st := by simpa [W] using h
        obtain ⟨s1, h1, h2, _⟩ := wpO_one h
        obtain ⟨s, h3, h4⟩ := wpL_one r h1
        refine ⟨s, h3, ?_⟩
        have := wpO_mono (X := Run T) (Y := Run T) (fun _ _ _ _ _ _ h => h) (K' := wpL (Run T) r (· = s)) (fun st e => by subst e; exact h4) h2
        simpa [W] using this
theorem wpLD_one : ∀ (ops : List AOp) {K : St → Prop} {st : St}, wpLD (One T) ops K st → ∃ s, K s ∧ wpLD (Run T) ops (· = s) st
  | [], K, st, h => ⟨st, h, rfl⟩
  | o :: r, K, st, h => by
    simp only [wpLD] at h ⊢
    cases hg : wantedA st o.guard with
    | none => rw [hg] at h; exact h.elim
    | some b =>
      rw [hg] at h
      cases b with
      | false =>
        obtain ⟨s, h1, h2⟩ := wpLD_one r (K := K) (by simpa [W] using h)
        exact ⟨s, h1, by simpa [W] using h2⟩
      | true =>
        have h : wpOD (One T) o (wpLD (One T) r K) st := by simpa [W] using h
        obtain ⟨s1, h1, _, h2⟩ := wpOD_one h
        obtain ⟨s, h3, h4⟩ := wpLD_one r h1
        refine ⟨s, h3, ?_⟩
        have := wpOD_mono (X := Run T) (Y := Run T) (fun _ _ _ _ _ _ h => h) (K' := wpLD (Run T) r (· = s)) (fun st e => by subst e; exact h4) h2
        simpa [W] using this
def isE (e : AE) (s : St) : AE → St → Prop := fun e' s' => e' = e ∧ s' = s
theorem leR : LeS (Run T) (Run T) := fun _ _ _ _ _ _ h => h
theorem wpC_one : ∀ (c : AC) {Q : AE → St → Prop} {st : St}, wpC (One T) c Q st → ∃ e s, Q e s ∧ wpC (Run T) c (isE e s) st
  | .skip, Q, st, h => ⟨_, _, h, rfl, rfl⟩
  | .reg d ops, Q, st, h => by
    cases d
    · obtain ⟨s, h1, h2⟩ := wpL_one ops (K := Q .normal) h
      exact ⟨.normal, s, h1, wpL_mono leR ops (fun st e => ⟨rfl, e⟩) h2⟩
    · obtain ⟨s, h1, h2⟩ := wpLD_one ops (K := Q .normal) h
      exact ⟨.normal, s, h1, wpLD_mono leR ops (fun st e => ⟨rfl, e⟩) h2⟩
  | .seq a b, Q, st, h => by
    obtain ⟨e, s, h1, h2⟩ := wpC_one a h
    cases e with
    | normal =>
      obtain ⟨e2, s2, h3, h4⟩ := wpC_one b h1
      exact ⟨e2, s2, h3, wpC_mono leR a (fun e' s' he => by obtain ⟨rfl, rfl⟩ := he; exact h4) h2⟩
    | exit i => exact ⟨_, s, h1, wpC_mono leR a (fun e' s' he => by obtain ⟨rfl, rfl⟩ := he; exact ⟨rfl, rfl⟩) h2⟩
    | ret => exact ⟨_, s, h1, wpC_mono leR a (fun e' s' he => by obtain ⟨rfl, rfl⟩ := he; exact ⟨rfl, rfl⟩) h2⟩
  | .cut ke kl a, Q, st, h => by
    obtain ⟨e, s, h1, h2⟩ := wpC_one a h
    cases e with
    | normal => exact ⟨_, _, h1, wpC_mono leR a (fun e' s' he => by obtain ⟨rfl, rfl⟩ := he; exact ⟨rfl, rfl⟩) h2⟩
    | exit i => exact ⟨_, _, h1, wpC_mono leR a (fun e' s' he => by obtain ⟨rfl, rfl⟩ := he; exact ⟨rfl, rfl⟩) h2⟩
    | ret => exact ⟨_, _, h1, wpC_mono leR a (fun e' s' he => by obtain ⟨rfl, rfl⟩ := he; exact ⟨rfl, rfl⟩) h2⟩
  | .cond c x y, Q, st, h => by
    simp only [wpC] at h ⊢
    cases hb : st.ev c <;> rw [hb] at h <;> simp only at h ⊢ <;> first | (exact h.elim) | skip
    rename_i b
    cases b
    · obtain ⟨e, s, h1, h2⟩ := wpC_one y (Q := Q) (by simpa using h)
      exact ⟨e, s, h1, by simpa using h2⟩
    · obtain ⟨e, s, h1, h2⟩ := wpC_one x (Q := Q) (by simpa using h)
      exact ⟨e, s, h1, by simpa using h2⟩
  | .block id c, Q, st, h => by
    obtain ⟨e, s, h1, h2⟩ := wpC_one c h
    cases e with
    | normal => exact ⟨_, _, h1, wpC_mono leR c (fun e' s' he => by obtain ⟨rfl, rfl⟩ := he; exact ⟨rfl, rfl⟩) h2⟩
    | ret => exact ⟨_, _, h1, wpC_mono leR c (fun e' s' he => by obtain ⟨rfl, rfl⟩ := he; exact ⟨rfl, rfl⟩) h2⟩
    | exit i =>
      simp only at h1
      by_cases hi : i = id
      · rw [if_pos hi] at h1
        exact ⟨_, _, h1, wpC_mono leR c (fun e' s' he => by obtain ⟨rfl, rfl⟩ := he; simp only; rw [if_pos hi]; exact ⟨rfl, rfl⟩) h2⟩
      · rw [if_neg hi] at h1
        exact ⟨_, _, h1, wpC_mono leR c (fun e' s' he => by obtain ⟨rfl, rfl⟩ := he; simp only; rw [if_neg hi]; exact ⟨rfl, rfl⟩) h2⟩
  | .loop ke kl c, Q, st, h => by
    refine h (fun st => ∃ e s, Q e s ∧ ∀ L : St → Prop, (∀ st, wpC (Run T) c (fun e' st' => match e' with | .normal => L (st'.norm ke kl) | e' => isE e s e' st') st → L st) → L st) fun st hst => ?_
    obtain ⟨e1, s1, h1, h2⟩ := wpC_one c hst
    cases e1 with
    | normal =>
      obtain ⟨e, s, h3, h4⟩ := h1
      exact ⟨e, s, h3, fun L hL => hL st (wpC_mono leR c (fun e' s' he => by obtain ⟨rfl, rfl⟩ := he; exact h4 L hL) h2)⟩
    | exit i => exact ⟨_, _, h1, fun L hL => hL st (wpC_mono leR c (fun e' s' he => by obtain ⟨rfl, rfl⟩ := he; exact ⟨rfl, rfl⟩) h2)⟩
    | ret => exact ⟨_, _, h1, fun L hL => hL st (wpC_mono leR c (fun e' s' he => by obtain ⟨rfl, rfl⟩ := he; exact ⟨rfl, rfl⟩) h2)⟩
  | .exit id, Q, st, h => ⟨_, _, h, rfl, rfl⟩
  | .ret, Q, st, h => ⟨_, _, h, rfl, rfl⟩
/-- What a call ends in is one thing. -/
theorem Run.one {f v : Nat} {a : List V} {h : Heap} {n : Nat} {Q : V → Heap → Nat → Prop} (hr : Run T f v a h n Q) : ∃ r h' n', Q r h' n' ∧ Run T f v a h n (fun r2 h2 n2 => r2 = r ∧ h2 = h' ∧ n2 = n') := by
  refine hr (One T) fun f v a h n Q hp => ?_
  unfold Phi at hp
  rcases hp with hp | hp
  · cases he : T.ext f a h n with
    | none => rw [he] at hp; exact hp.elim
    | some q => rw [he] at hp; exact ⟨_, _, _, hp, run_ext he⟩
  · cases hF : T.fn f v with
    | none => rw [hF] at hp; exact hp.elim
    | some F =>
      rw [hF] at hp
      obtain ⟨hl, hw⟩ := hp
      obtain ⟨e, s, h1, h2⟩ := wpC_one F.code hw
      have fin : W (resL s F.res) (fun rs => Q (outV rs) s.heap s.ctr) → (e = .normal ∨ e = .ret) → One T f v a h n Q := fun hw he => by
        cases hy : resL s F.res with
        | none => rw [hy] at hw; exact hw.elim
        | some rs =>
          rw [hy] at hw
          refine ⟨_, _, _, hw, Run.fold T (.inr ?_)⟩
          rw [hF]
          refine ⟨hl, wpC_mono leR F.code (fun e' s' hh => ?_) h2⟩
          obtain ⟨rfl, rfl⟩ := hh
          rcases he with rfl | rfl
          · simp only [hy, W, and_self]
          · simp only [hy, W, and_self]
      cases e with
      | normal => exact fin h1 (.inl rfl)
      | ret => exact fin h1 (.inr rfl)
      | exit i => exact h1.elim
theorem CallHD.any {f v : Nat} {cap args : List V} {hp : Heap} {n : Nat} {k : V → Heap → Nat → Prop} {t : Tag k} {R : V → Heap → Nat → Prop} (hX : Run T f v (args ++ cap.map clr) hp n R) (hk : ∀ r h m, R r h m → k r h m) : CallHD (Run T) v (.fn f cap) args hp n k t := by
  obtain ⟨r, h', n', h1, h2⟩ := hX.one
  exact ⟨r, h', n', _, h2, fun r' h2 n2 e => e, hk _ _ _ h1⟩
theorem CallD.any {f v : Nat} {args : List V} {k : V → Prop} {t : Tag k} {R : V → Prop} (ha : args.all noH = true) (hX : Run T f v args [] 0 (fun r _ _ => R r)) (hk : ∀ r, R r → noH r = true ∧ k r) : CallD (Run T) f v args k t := by
  obtain ⟨r, h', n', h1, h2⟩ := hX.one
  exact ⟨ha, r, _, h2, fun r' h2 n2 e => e.1, (hk r h1).1, (hk r h1).2⟩
end
end Go.Proofs.Ythphnacnjbcpiaa.E

/- The engine, part AL: functions of the library of which a contract is known: what a contract must say. Conditions: none. -/
namespace Go.Proofs.Ythphnacnjbcpiaa.E
open Go.RowKit
set_option linter.unusedVariables false
set_option linter.unusedSimpArgs false

section
variable {P : Program} {w w' : World} {G G' : Nat → Nat} {φ : Nat → Option Nat} {xs : List V} {vs : List Value} {heap : Heap} {n : Nat} {r : V} {u : Value}
/-- A call that makes something and leaves the blocks as they are. -/
theorem HRes.of_mk (h : HPre w G φ xs vs heap n) (hm : Mk w G φ xs vs r w' G' u) : HRes w G φ xs vs heap n r heap n u w' G' φ := by
  have hlt : ∀ p ∈ heap, ∀ c, lv w φ c p ≠ 0 → c < w.heap.size ∧ vtk xs vs c = 0 := fun p hp c hc => by
    have h1 := le_sum (f := lv w φ c) hp
    have h2 : cntH w φ heap c ≠ 0 := by unfold cntH; omega
    have h3 := h.cnt c
    refine ⟨?_, by omega⟩
    rcases Nat.lt_or_ge c w.heap.size with hl | hl
    · exact hl
    · have := vtk_big h hl; omega
  have hlv : ∀ p ∈ heap, ∀ q, lv w' φ q p = lv w φ q p := fun p hp q => by
    obtain ⟨k, hk, _⟩ := (h.reps p hp).lt
    have h1 := hlt p hp k (by have := lv_self (w := w) (blk := p.2) hk; show lv w φ k (p.1, p.2) ≠ 0; omega)
    exact lv_congr hk hk (hm.same k h1.1 h1.2).1 q
  have hcnt : ∀ q, cntH w' φ heap q = cntH w φ heap q := fun q => by
    unfold cntH
    rw [List.map_congr_left fun p hp => hlv p hp q]
  refine ⟨hm.r, hm.tail, fun p hp => (h.reps p hp).mono hm.ext (fun _ _ h => h) fun c hc => hm.same c (hlt p hp c hc).1 (hlt p hp c hc).2, h.sorted, fun b => ?_, h.ctr, Nat.le_refl _, hm.zero, hm.ext, fun _ _ h => h, fun b hb h0 => ?_⟩
  · have h1 := hm.tk b
    have h2 := h.cnt b
    rw [hcnt]
    split at h1
    · rename_i hl
      have := vtk_big h hl; omega
    · omega
  · have h1 := hm.tk b
    rw [if_neg (by omega)] at h1
    have h2 := hm.same b hb (by omega)
    exact ⟨h2.1, h2.2, by rw [hcnt]; omega⟩
/-- A row that the call made. -/
theorem Mk.own {el : TypeId} {sz : Nat} {l : List V} {news : List Value} (hB : Below w.heap.size w w') (hz : ∀ i (h : i < l.length), (l[i]).cells.length = sz)
    (hr : ∀ i j (h : i < l.length) (hj : j < (l[i]).cells.length), R w G (fun _ => none) ((l[i]).cells[j]) (news.getD (i * sz + j) undef)) (h1 : ∀ u ∈ news, u.oneCell' = true)
    (ho : w'.ownsRow w.heap.size el sz u l.length news) (hg : ∀ b, w.heap.size ≤ b → G b = 0) : ∃ G', Mk w G φ xs vs (.sl true sz l) w' G' u := by
  obtain ⟨hl, ho⟩ := ho
  rcases ho with ⟨rfl, h0⟩ | ⟨g, cap, cur, rfl, hge, hh, hcap, hmax, hsz, htk⟩
  · have : l = [] := List.eq_nil_of_length_eq_zero h0
    subst this
    refine ⟨G, ⟨⟨fun _ => Nat.le_refl _, fun b o ho => ?_, fun b c e f hb => ⟨c, ?_, rfl⟩, hB.size, hB.os, hB.tape, hB.output⟩, .slNil _ _ _ _ _, fun p hp => ?_, fun b => ?_, fun b hb _ => ⟨hB.block b hb, rfl⟩, fun b hb => hg b (Nat.le_trans hB.size hb)⟩⟩
    · rcases Nat.lt_or_ge b w.heap.size with hlt | hge
      · exact cell_same (hB.block b hlt) o
      · rw [hg b hge] at ho; omega
    · rcases Nat.lt_or_ge b w.heap.size with hlt | hge
      · rw [hB.block b hlt, hb]
      · rw [Array.getElem?_eq_none hge] at hb; cases hb
    · rw [leaves_sl, List.mem_singleton] at hp
      subst hp
      rfl
    · rw [tk_sl]; simp [tk1]
  · have hlt : g < w'.heap.size := by
      rcases Nat.lt_or_ge g w'.heap.size with h | h
      · exact h
      · rw [Array.getElem?_eq_none h] at hh; cases hh
    have hext : Ext w G w' (fun b => if b = g then l.length * sz else G b) := by
      refine ⟨fun b => ?_, fun b o ho => ?_, fun b c e f hb => ⟨c, ?_, rfl⟩, hB.size, hB.os, hB.tape, hB.output⟩
      · try dsimp only
        split
        · rename_i e; rw [e, hg _ hge]; exact Nat.zero_le _
        · exact Nat.le_refl _
      · rcases Nat.lt_or_ge b w.heap.size with hlt | hge
        · exact cell_same (hB.block b hlt) o
        · rw [hg b hge] at ho; omega
      · rcases Nat.lt_or_ge b w.heap.size with hlt | hge
        · rw [hB.block b hlt, hb]
        · rw [Array.getElem?_eq_none hge] at hb; cases hb
    have hle : l.length * sz ≤ cap * sz := Nat.mul_le_mul_right _ hcap
    have hcell : ∀ q, q < l.length * sz → w'.cell? ⟨g, q, none⟩ = some (news.getD q undef) := fun q hq => by
      rw [cell_of_row w' g q cur el (0, 0) hh]
      have h2 : (cur.toList.take (l.length * sz))[q]? = news[q]? := by rw [htk]
      rw [List.getElem?_take_of_lt hq, Array.getElem?_toList] at h2
      rw [h2, List.getD_eq_getElem?_getD, List.getElem?_eq_getElem (by omega)]
      rfl
    refine ⟨fun b => if b = g then l.length * sz else G b, ⟨hext, ?_, ?_, fun b => ?_, fun b hb _ => ⟨hB.block b hb, if_neg (by omega)⟩, fun b hb => (if_neg (by omega)).trans (hg b (Nat.le_trans hB.size hb))⟩⟩
    · refine .sl _ _ sz l _ 0 cap (fun i j => news.getD (i * sz + j) undef) hcap (fun i j hi hj => ?_) (fun i j hi hj => ?_) hz (fun i j hi hj => (hr i j hi hj).mono hext fun _ _ h => h) (by simp)
      · have : (i + 1) * sz ≤ l.length * sz := Nat.mul_le_mul_right _ hi
        rw [Nat.succ_mul] at this
        rw [show 0 + i * sz + j = i * sz + j by omega]
        exact hcell _ (by omega)
      · have : (i + 1) * sz ≤ l.length * sz := Nat.mul_le_mul_right _ hi
        rw [Nat.succ_mul] at this
        rw [List.getD_eq_getElem?_getD, List.getElem?_eq_getElem (by omega)]
        exact h1 _ (List.getElem_mem _)
    · intro p hp
      rw [leaves_sl, List.mem_singleton] at hp
      subst hp
      intro _
      exact ⟨rfl, ⟨cur, el, (0, 0), hh, by show 0 + cap * sz ≤ cur.size; omega, fun o _ hc => by simp at hc⟩, by simp⟩
    · rw [tk_sl]
      simp only [tk1]
      split
      · rename_i h
        rw [if_pos (by omega)]; omega
      · omega
/-- The library's Clone of a row, out of its contract. -/
theorem xs_clone {f v : Nat} {el : TypeId} {sz bytes : Nat} (he : entersB P f = true)
    (c1 : ∀ (b off n c : Nat) (news : List Value) (w : World), news.length = n * sz → n ≤ maxLen → n * bytes ≤ 140737488355328 → (∀ j u, news[j]? = some u → w.cell? ⟨b, off + j, none⟩ = some u) → (∀ u ∈ news, u.oneCell' = true) → Calls P f #[.slice (some ⟨b, off, none⟩) n c] w fun e w' => ∃ v', e = .returned v' ∧ w'.ownsRow w.heap.size el sz v' n news ∧ v' ≠ .slice none 0 0 ∧ Below w.heap.size w w')
    (c2 : ∀ (n c : Nat) (w : World), Calls P f #[.slice none n c] w fun e w' => e = .returned (.slice none 0 0) ∧ w' = w)
    (c3 : ∀ (a : Addr) (c : Nat) (w : World), Calls P f #[.slice (some a) 0 c] w fun e w' => ∃ v', e = .returned v' ∧ w'.ownsRow w.heap.size el sz v' 0 [] ∧ v' ≠ .slice none 0 0 ∧ Below w.heap.size w w')
    (o : Bool) (l : List V) (hl : l.length * bytes ≤ 140737488355328) (hm : l.length ≤ maxLen) {heap : Heap} {n : Nat} : XS P f v [.sl o sz l] heap n (fun r h' n' => r = .sl true sz l ∧ h' = heap ∧ n' = n) := by
  refine ⟨he, fun w G φ vs hp => ?_⟩
  obtain ⟨u, rfl, hR⟩ : ∃ u, vs = [u] ∧ R w G φ (.sl o sz l) u := by
    cases hp.ok with
    | cons h t => cases t; exact ⟨_, rfl, h.1⟩
  obtain ⟨a, m, cap, rfl⟩ : ∃ a m cap, u = .slice a m cap := by
    cases hR with
    | slNil => exact ⟨_, _, _, rfl⟩
    | sl => exact ⟨_, _, _, rfl⟩
  obtain ⟨rfl, hb, news, n1, n2, n3, n4, n5⟩ := sl_news hR
  have fin : ∀ (w' : World) (v' : Value), Below w.heap.size w w' → w'.ownsRow w.heap.size el sz v' l.length news →
      ∃ r u2 heap' n' G' φ', (Ending.returned v' : Ending) = .returned u2 ∧ (r = .sl true sz l ∧ heap' = heap ∧ n' = n) ∧ HRes w G φ [.sl o sz l] [.slice a l.length cap] heap n r heap' n' u2 w' G' φ' := fun w' v' k1 k2 => by
    obtain ⟨G', hm⟩ := Mk.own (φ := φ) (xs := [.sl o sz l]) (vs := [.slice a l.length cap]) k1 n4 n5 n2 k2 hp.zero
    exact ⟨_, v', heap, n, G', φ, rfl, ⟨rfl, rfl, rfl⟩, HRes.of_mk hp hm⟩
  rcases hb with rfl | ⟨blk, off, rfl, hcap⟩
  · have : news = [] := List.eq_nil_of_length_eq_zero (by simpa using n1)
    subst this
    cases a with
    | none =>
      refine (c2 0 cap w).mono ?_
      rintro e w' ⟨rfl, rfl⟩
      exact fin _ _ (Below.refl _ _) (World.ownsRow_nil _ _ _ _)
    | some a =>
      refine (c3 a cap w).mono ?_
      rintro e w' ⟨v', rfl, k1, _, k2⟩
      exact fin _ _ k2 k1
  · refine (c1 blk off l.length cap news w n1 hm hl (fun j u hu => by rw [← n3 _ rfl j u hu, add_none]) n2).mono ?_
    rintro e w' ⟨v', rfl, k1, _, k2⟩
    exact fin _ _ k2 k1
/-- A search for one byte. -/
theorem xs_index {f v : Nat} (he : entersB P f = true) {ix : List UInt8 → UInt8 → Int} (c1 : ∀ (s : ByteArray) (c : UInt8) (w : World), Calls P f #[.string s, .string ⟨#[c]⟩] w fun e w' => e = .returned (.int .i64 (ix s.data.toList c)) ∧ w' = w) (s : List UInt8) (c : UInt8) {heap : Heap} {n : Nat} :
    XS P f v [.str s, .str [c]] heap n (fun r h' n' => r = .int .i64 (ix s c) ∧ h' = heap ∧ n' = n) := by
  refine xs_pure he rfl fun w G φ vs hp => ?_
  obtain ⟨u1, u2, rfl, h1, h2⟩ : ∃ u1 u2, vs = [u1, u2] ∧ R w G φ (.str s) u1 ∧ R w G φ (.str [c]) u2 := by
    cases hp with
    | cons h t =>
      cases t with
      | cons h' t' => cases t'; exact ⟨_, _, rfl, h, h'⟩
  generalize hd : [c] = d at h2
  cases h1 with
  | str _ s =>
    cases h2 with
    | str _ t =>
      obtain ⟨⟨t⟩⟩ := t
      simp only at hd
      subst hd
      refine (c1 s c w).mono ?_
      rintro e w' ⟨rfl, rfl⟩
      exact ⟨_, rfl, rfl, .int _ _ _⟩
end
end Go.Proofs.Ythphnacnjbcpiaa.E
