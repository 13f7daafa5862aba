/- What Invert, Unchanged and FromRuns answer, and their references. Conditions: lists shorter than 2^40. -/
import Derived.Test.YtikepmdhnbnohaaPx0
import Derived.Test.YtikepmdhnbnohaaPx10
import Derived.Test.YtikepmdhnbnohaaPx19
import Derived.Test.YtikepmdhnbnohaaPx21
import Derived.Test.YtikepmdhnbnohaaPx22
import Derived.Test.YtikepmdhnbnohaaPx23
import Derived.Test.YtikepmdhnbnohaaPx24
import Derived.Test.YtikepmdhnbnohaaPx25
import Derived.Test.YtikepmdhnbnohaaPx6
import Derived.Test.YtikepmdhnbnohaaPx7
import Derived.Test.YtikepmdhnbnohaaPx8
import Derived.Test.YtikepmdhnbnohaaPlLives8
namespace Go.Proofs.Ytikepmdhnbnohaa.Pl
open Go.RowKit Go.Proofs.YtikepmdhnbnohaaW.PrintWords Go.Proofs.Ytikepmdhnbnohaa.P
set_option linter.unusedSimpArgs false
set_option linter.unusedVariables false
abbrev Rn := S32
theorem rdR_at (l : List Rn) (i : Nat) (h : i < l.length) : rd_T32 l (i : Int) = l[i] := by
  unfold rd_T32
  rw [Int.toNat_natCast, List.getD_eq_getElem?_getD, List.getElem?_eq_getElem h]
  rfl
/-- The runs that stay. -/
def stay (n : Int) : List Ed → Int → Int → List Rn
  | [], x, y => if x < n then [⟨x, y, wrap64 (n - x)⟩] else []
  | e :: l, x, y => (if x < e.f0 then [⟨x, y, wrap64 (e.f0 - x)⟩] else []) ++ stay n l (wrap64 (e.f0 + e.f1)) (wrap64 (e.f2 + e.f3))
theorem unchanged_loop (l : List Ed) (n : Int) (hl : l.length < 1099511627776) : ∀ (d i : Nat) (out : List Rn) (x y : Int), i + d = l.length → out.length ≤ i → Ev (fun k => diff_Unchanged.l0 k n out x y l (l.length : Int) (i : Int)) (out ++ stay n (l.drop i) x y) := by
  intro d
  induction d with
  | zero =>
    intro i out x y hi ho
    refine Ev.end_ fun k => ?_
    rw [diff_Unchanged.l0, if_neg (by omega), List.drop_eq_nil_of_le (show l.length ≤ i by omega), stay]
    by_cases c : x < n
    · rw [if_pos c, if_pos (by omega), if_pos c]
    · rw [if_neg c, if_neg c, List.append_nil]
  | succ d ih =>
    intro i out x y hi ho
    have hil : i < l.length := by omega
    rw [drop_cons l i hil, stay]
    by_cases c : x < l[i].f0
    · rw [if_pos c, ← List.append_assoc]
      refine Ev.step (fun k => ?_) (ih (i + 1) (out ++ [⟨x, y, wrap64 (l[i].f0 - x)⟩]) _ _ (by omega) (by simp; omega))
      rw [diff_Unchanged.l0, if_pos (by omega), if_pos (by omega), if_pos (by omega), rdE_at l i hil, if_pos c, if_pos (by omega), w64 (n := (i : Int) + 1) (by omega) (by omega)]
      rfl
    · rw [if_neg c, List.nil_append]
      refine Ev.step (fun k => ?_) (ih (i + 1) out _ _ (by omega) (by omega))
      rw [diff_Unchanged.l0, if_pos (by omega), if_pos (by omega), if_pos (by omega), rdE_at l i hil, if_neg c, w64 (n := (i : Int) + 1) (by omega) (by omega)]
      rfl
theorem unchanged_ev (l : List Ed) (n : Int) (hl : l.length < 1099511627776) : Ev (fun k => diff_Unchanged.f k l n) (stay n l 0 0) := unchanged_loop l n hl l.length 0 [] 0 0 (by omega) (by simp)
theorem rstay_loop (l : List Ed) (n : Int) (hl : l.length < 1099511627776) : ∀ (d i : Nat) (out : List Rn) (x y : Int), i + d = l.length → out.length ≤ i → Ev (fun k => graftageref08_Stay.l0 k l n out x y (l.length : Int) (i : Int)) (out ++ stay n (l.drop i) x y) := by
  intro d
  induction d with
  | zero =>
    intro i out x y hi ho
    refine Ev.end_ fun k => ?_
    rw [graftageref08_Stay.l0, if_neg (by omega), List.drop_eq_nil_of_le (show l.length ≤ i by omega), stay]
    by_cases c : x < n
    · rw [if_pos c, if_pos (by omega), if_pos c]
    · rw [if_neg c, if_neg c, List.append_nil]
  | succ d ih =>
    intro i out x y hi ho
    have hil : i < l.length := by omega
    rw [drop_cons l i hil, stay]
    by_cases c : x < l[i].f0
    · rw [if_pos c, ← List.append_assoc]
      refine Ev.step (fun k => ?_) (ih (i + 1) (out ++ [⟨x, y, wrap64 (l[i].f0 - x)⟩]) _ _ (by omega) (by simp; omega))
      rw [graftageref08_Stay.l0, if_pos (by omega), if_pos (by omega), if_pos (by omega), rdE_at l i hil, if_pos c, if_pos (by omega), w64 (n := (i : Int) + 1) (by omega) (by omega)]
      rfl
    · rw [if_neg c, List.nil_append]
      refine Ev.step (fun k => ?_) (ih (i + 1) out _ _ (by omega) (by omega))
      rw [graftageref08_Stay.l0, if_pos (by omega), if_pos (by omega), if_pos (by omega), rdE_at l i hil, if_neg c, w64 (n := (i : Int) + 1) (by omega) (by omega)]
      rfl
theorem rstay_ev (l : List Ed) (n : Int) (hl : l.length < 1099511627776) : Ev (fun k => graftageref08_Stay.f k l n) (stay n l 0 0) := rstay_loop l n hl l.length 0 [] 0 0 (by omega) (by simp)
theorem inv_cons (e : Ed) (l : List Ed) : inv (e :: l) = ⟨e.f2, e.f3, e.f0, e.f1⟩ :: inv l := rfl
theorem invert_loop (l : List Ed) (hl : l.length < 1099511627776) : ∀ (d i : Nat) (out : List Ed), i + d = l.length → out.length ≤ i → Ev (fun k => diff_Invert.l0 k out l (l.length : Int) (i : Int)) (out ++ inv (l.drop i)) := by
  intro d
  induction d with
  | zero =>
    intro i out hi ho
    refine Ev.end_ fun k => ?_
    rw [diff_Invert.l0, if_neg (by omega), List.drop_eq_nil_of_le (show l.length ≤ i by omega)]
    simp [inv]
  | succ d ih =>
    intro i out hi ho
    have hil : i < l.length := by omega
    rw [drop_cons l i hil, inv_cons, snoc_app]
    refine Ev.step (fun k => ?_) (ih (i + 1) _ (by omega) (by simp; omega))
    rw [diff_Invert.l0, if_pos (by omega), if_pos (by omega), if_pos (by omega), if_pos (by omega), rdE_at l i hil, w64 (n := (i : Int) + 1) (by omega) (by omega)]
    rfl
theorem invert_ev (l : List Ed) (hl : l.length < 1099511627776) : Ev (fun k => diff_Invert.f k l) (inv l) := invert_loop l hl l.length 0 [] (by omega) (by simp)
theorem back_loop (l : List Ed) (hl : l.length < 1099511627776) : ∀ (d i : Nat) (out : List Ed), i + d = l.length → out.length ≤ i → Ev (fun k => graftageref08_Back.l0 k l out (l.length : Int) (i : Int)) (out ++ inv (l.drop i)) := by
  intro d
  induction d with
  | zero =>
    intro i out hi ho
    refine Ev.end_ fun k => ?_
    rw [graftageref08_Back.l0, if_neg (by omega), List.drop_eq_nil_of_le (show l.length ≤ i by omega)]
    simp [inv]
  | succ d ih =>
    intro i out hi ho
    have hil : i < l.length := by omega
    rw [drop_cons l i hil, inv_cons, snoc_app]
    refine Ev.step (fun k => ?_) (ih (i + 1) _ (by omega) (by simp; omega))
    rw [graftageref08_Back.l0, if_pos (by omega), if_pos (by omega), if_pos (by omega), if_pos (by omega), rdE_at l i hil, w64 (n := (i : Int) + 1) (by omega) (by omega)]
    rfl
theorem back_ev (l : List Ed) (hl : l.length < 1099511627776) : Ev (fun k => graftageref08_Back.f k l) (inv l) := back_loop l hl l.length 0 [] (by omega) (by simp)
theorem edits_same (l : List Ed) (hl : l.length < 4611686018427387904) : Ev (fun k => graftageref08_Edits.f k l l) true := by
  have loop : ∀ (d i : Nat), i + d = l.length → Ev (fun k => graftageref08_Edits.l0 k l l (l.length : Int) (i : Int)) true := by
    intro d
    induction d with
    | zero => intro i hi; exact Ev.end_ fun k => by rw [graftageref08_Edits.l0, if_neg (by omega)]
    | succ d ih =>
      intro i hi
      refine Ev.step (fun k => ?_) (ih (i + 1) (by omega))
      rw [graftageref08_Edits.l0, if_pos (by omega), if_pos (by omega), if_pos (by omega), if_pos (by omega), if_neg (by simp), w64 (n := (i : Int) + 1) (by omega) (by omega)]
      rfl
  refine Ev.congr (fun k => ?_) (loop l.length 0 (by omega))
  unfold graftageref08_Edits.f
  rw [if_pos rfl]
  rfl
theorem runs_same (l : List Rn) (hl : l.length < 4611686018427387904) : Ev (fun k => graftageref08_Runs.f k l l) true := by
  have loop : ∀ (d i : Nat), i + d = l.length → Ev (fun k => graftageref08_Runs.l0 k l l (l.length : Int) (i : Int)) true := by
    intro d
    induction d with
    | zero => intro i hi; exact Ev.end_ fun k => by rw [graftageref08_Runs.l0, if_neg (by omega)]
    | succ d ih =>
      intro i hi
      refine Ev.step (fun k => ?_) (ih (i + 1) (by omega))
      rw [graftageref08_Runs.l0, if_pos (by omega), if_pos (by omega), if_pos (by omega), if_pos (by omega), if_neg (by simp), w64 (n := (i : Int) + 1) (by omega) (by omega)]
      rfl
  refine Ev.congr (fun k => ?_) (loop l.length 0 (by omega))
  unfold graftageref08_Runs.f
  rw [if_pos rfl]
  rfl
theorem stay_len (n : Int) : ∀ (l : List Ed) (x y : Int), (stay n l x y).length ≤ l.length + 1
  | [], x, y => by unfold stay; split <;> simp
  | e :: l, x, y => by
    have := stay_len n l (wrap64 (e.f0 + e.f1)) (wrap64 (e.f2 + e.f3))
    rw [stay, List.length_append, List.length_cons]
    split <;> simp <;> omega
theorem lay_len (i j a b : Int) (out : List Ed) : (diff_FromRuns.lay i j a b out).length ≤ out.length + 1 := by
  unfold diff_FromRuns.lay
  split
  · simp
  · split <;> simp
theorem of_loop (n m : Int) (l : List Rn) (hl : l.length < 1099511627776) : ∀ (d q : Nat) (out : List Ed) (i j : Int), q + d = l.length → out.length ≤ q →
    ∃ r, diff_FromRuns.go n m (l.drop q) i j out = some r ∧ Ev (fun k => graftageref08_Of.l0 k n m l out i j (l.length : Int) (q : Int)) r ∧ r.length ≤ l.length + 1 := by
  intro d
  induction d with
  | zero =>
    intro q out i j hq ho
    rw [List.drop_eq_nil_of_le (show l.length ≤ q by omega), diff_FromRuns.go, if_pos (by omega)]
    refine ⟨_, rfl, Ev.end_ fun k => ?_, by have := lay_len i j n m out; omega⟩
    rw [graftageref08_Of.l0, if_neg (by omega)]
    unfold diff_FromRuns.lay
    by_cases c : i < n
    · rw [if_pos c, if_pos (by omega), if_pos c]
    · rw [if_neg c, if_neg c]
      by_cases c2 : j < m
      · rw [if_pos c2, if_pos (by omega), if_pos c2]
      · rw [if_neg c2, if_neg c2]
  | succ d ih =>
    intro q out i j hq ho
    have hql : q < l.length := by omega
    have hd := drop_cons l q hql
    have bad : ∀ (x0 x1 x2 : Int), (∀ k, graftageref08_Of.l0 (k + 1) n m l out i j (l.length : Int) (q : Int) = graftageref08_Of.j2 k n m l out i j (l.length : Int) (q : Int) true x0 x1 x2) → Ev (fun k => graftageref08_Of.l0 k n m l out i j (l.length : Int) (q : Int)) [] := fun x0 x1 x2 h =>
      Ev.step h (Ev.end_ fun k => by rw [graftageref08_Of.j2, if_pos rfl])
    rw [hd]
    unfold diff_FromRuns.go
    have hstep : ∀ k, graftageref08_Of.l0 (k + 1) n m l out i j (l.length : Int) (q : Int) = _ := fun k => by
      rw [graftageref08_Of.l0, if_pos (by omega), if_pos (by omega), if_pos (by omega), rdR_at l q hql]
    by_cases t1 : l[q].f2 < 1
    · rw [if_pos t1]
      exact ⟨_, rfl, bad _ _ _ (fun k => by rw [hstep, if_pos t1]), by simp⟩
    rw [if_neg t1]
    by_cases t2 : l[q].f0 < i
    · rw [if_pos t2]
      exact ⟨_, rfl, bad _ _ _ (fun k => by rw [hstep, if_neg t1, if_pos t2]), by simp⟩
    rw [if_neg t2]
    by_cases t3 : l[q].f1 < j
    · rw [if_pos t3]
      exact ⟨_, rfl, bad _ _ _ (fun k => by rw [hstep, if_neg t1, if_neg t2, if_pos t3]), by simp⟩
    rw [if_neg t3]
    by_cases t4 : n < l[q].f0
    · rw [if_pos t4]
      exact ⟨_, rfl, bad _ _ _ (fun k => by rw [hstep, if_neg t1, if_neg t2, if_neg t3, if_pos t4]), by simp⟩
    rw [if_neg t4]
    by_cases t5 : m < l[q].f1
    · rw [if_pos t5]
      exact ⟨_, rfl, bad _ _ _ (fun k => by rw [hstep, if_neg t1, if_neg t2, if_neg t3, if_neg t4, if_pos t5]), by simp⟩
    rw [if_neg t5]
    by_cases t6 : wrap64 (n - l[q].f0) < l[q].f2
    · rw [if_pos t6]
      exact ⟨_, rfl, bad _ _ _ (fun k => by rw [hstep, if_neg t1, if_neg t2, if_neg t3, if_neg t4, if_neg t5, if_pos t6]), by simp⟩
    rw [if_neg t6]
    by_cases t7 : wrap64 (m - l[q].f1) < l[q].f2
    · rw [if_pos t7]
      exact ⟨_, rfl, bad _ _ _ (fun k => by rw [hstep, if_neg t1, if_neg t2, if_neg t3, if_neg t4, if_neg t5, if_neg t6, decide_eq_true t7]), by simp⟩
    rw [if_neg t7, if_pos (by omega)]
    have hll := lay_len i j l[q].f0 l[q].f1 out
    obtain ⟨r, h1, h2, h3⟩ := ih (q + 1) (diff_FromRuns.lay i j l[q].f0 l[q].f1 out) (wrap64 (l[q].f0 + l[q].f2)) (wrap64 (l[q].f1 + l[q].f2)) (by omega) (by omega)
    refine ⟨r, h1, Ev.step (f := fun k => graftageref08_Of.j2 k n m l out i j (l.length : Int) (q : Int) false l[q].f0 l[q].f1 l[q].f2) (fun k => ?_) (Ev.step (fun k => ?_) h2), h3⟩
    · rw [hstep, if_neg t1, if_neg t2, if_neg t3, if_neg t4, if_neg t5, if_neg t6, decide_eq_false t7]
    · rw [graftageref08_Of.j2, if_neg (by simp), w64 (n := (q : Int) + 1) (by omega) (by omega)]
      unfold diff_FromRuns.lay
      by_cases c : i < l[q].f0
      · rw [if_pos c, if_pos (by omega), if_pos c]; rfl
      · rw [if_neg c, if_neg c]
        by_cases c2 : j < l[q].f1
        · rw [if_pos c2, if_pos (by omega), if_pos c2]; rfl
        · rw [if_neg c2, if_neg c2]; rfl
theorem of_ev (n m : Int) (l : List Rn) (hl : l.length < 1099511627776) : ∃ r, diff_FromRuns.f n m l = some r ∧ Ev (fun k => graftageref08_Of.f k n m l) r ∧ r.length ≤ l.length + 1 := by
  unfold diff_FromRuns.f graftageref08_Of.f
  by_cases c : n < 0
  · rw [if_pos c]
    refine ⟨_, rfl, Ev.end_ fun k => ?_, by simp⟩
    rw [if_pos c, graftageref08_Of.j0, if_pos rfl]
  rw [if_neg c]
  by_cases c2 : m < 0
  · rw [if_pos c2]
    refine ⟨_, rfl, Ev.end_ fun k => ?_, by simp⟩
    rw [if_neg c, decide_eq_true c2, graftageref08_Of.j0, if_pos rfl]
  rw [if_neg c2]
  obtain ⟨r, h1, h2, h3⟩ := of_loop n m l hl l.length 0 [] 0 0 (by omega) (by simp)
  refine ⟨r, h1, Ev.step (fun k => ?_) h2, h3⟩
  rw [if_neg c, decide_eq_false c2, graftageref08_Of.j0, if_neg (by simp)]
  rfl
end Go.Proofs.Ytikepmdhnbnohaa.Pl
