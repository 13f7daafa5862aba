/- The greatest number of lines that stay (lcs), alignments of two lists, the greedy one, and that it is best. No program in sight. Conditions: none. -/
import Derived.Test.YtikepmdhnbnohaaPx0
namespace Go.Proofs.Ytikepmdhnbnohaa.Pl
open Go.RowKit Go.Proofs.YtikepmdhnbnohaaW.PrintWords
variable {α : Type} [DecidableEq α]
def lcs : List α → List α → Nat
  | [], _ => 0
  | _ :: _, [] => 0
  | x :: a, y :: b => if x = y then lcs a b + 1 else max (lcs a (y :: b)) (lcs (x :: a) b)
termination_by a b => a.length + b.length
theorem lcs_nil (b : List α) : lcs [] b = 0 := by unfold lcs; rfl
theorem lcs_nil2 (a : List α) : lcs a [] = 0 := by cases a <;> (unfold lcs; rfl)
theorem lcs_same (x : α) (a b : List α) : lcs (x :: a) (x :: b) = lcs a b + 1 := by rw [lcs, if_pos rfl]
theorem lcs_ne {x y : α} (h : x ≠ y) (a b : List α) : lcs (x :: a) (y :: b) = max (lcs a (y :: b)) (lcs (x :: a) b) := by rw [lcs, if_neg h]
theorem lcs_le_both : ∀ n (a b : List α), a.length + b.length ≤ n → (∀ x, lcs a b ≤ lcs (x :: a) b ∧ lcs (x :: a) b ≤ lcs a b + 1) ∧ (∀ y, lcs a b ≤ lcs a (y :: b) ∧ lcs a (y :: b) ≤ lcs a b + 1) := by
  intro n
  induction n with
  | zero =>
    intro a b h
    have ha : a = [] := List.eq_nil_of_length_eq_zero (by omega)
    have hb : b = [] := List.eq_nil_of_length_eq_zero (by omega)
    subst ha hb
    exact ⟨fun x => by simp [lcs_nil2], fun y => by simp [lcs_nil]⟩
  | succ n ih =>
    intro a b h
    refine ⟨fun x => ?_, fun y => ?_⟩
    · cases b with
      | nil => simp [lcs_nil2]
      | cons y b =>
        have hb := (ih a b (by simp at h; omega)).2 y
        by_cases e : x = y
        · subst e
          rw [lcs_same]
          omega
        · rw [lcs_ne e]
          have hx := (ih a b (by simp at h; omega)).1 x
          omega
    · cases a with
      | nil => simp [lcs_nil]
      | cons x a =>
        have ha := (ih a b (by simp at h; omega)).1 x
        by_cases e : x = y
        · subst e
          rw [lcs_same]
          omega
        · rw [lcs_ne e]
          have hy := (ih a b (by simp at h; omega)).2 y
          omega
theorem lcs_left (x : α) (a b : List α) : lcs a b ≤ lcs (x :: a) b := ((lcs_le_both _ a b (Nat.le_refl _)).1 x).1
theorem lcs_right (y : α) (a b : List α) : lcs a b ≤ lcs a (y :: b) := ((lcs_le_both _ a b (Nat.le_refl _)).2 y).1
theorem lcs_le_left : ∀ n (a b : List α), a.length + b.length ≤ n → lcs a b ≤ a.length ∧ lcs a b ≤ b.length := by
  intro n
  induction n with
  | zero =>
    intro a b h
    have ha : a = [] := List.eq_nil_of_length_eq_zero (by omega)
    subst ha
    simp [lcs_nil]
  | succ n ih =>
    intro a b h
    cases a with
    | nil => simp [lcs_nil]
    | cons x a =>
      cases b with
      | nil => simp [lcs_nil2]
      | cons y b =>
        simp only [List.length_cons] at h ⊢
        by_cases e : x = y
        · subst e
          rw [lcs_same]
          have := ih a b (by omega)
          omega
        · rw [lcs_ne e]
          have h1 := ih a (y :: b) (by simp; omega)
          have h2 := ih (x :: a) b (by simp; omega)
          simp only [List.length_cons] at h1 h2
          omega
theorem lcs_le (a b : List α) : lcs a b ≤ a.length ∧ lcs a b ≤ b.length := lcs_le_left _ a b (Nat.le_refl _)
/-- What becomes of a line: it stays, goes, or comes. -/
inductive Op where
  | K | D | I
deriving DecidableEq
/-- An alignment of two lists. -/
inductive Al : List α → List α → List Op → Prop where
  | nil : Al [] [] []
  | keep (x : α) {a b : List α} {o : List Op} (h : Al a b o) : Al (x :: a) (x :: b) (Op.K :: o)
  | del (x : α) {a b : List α} {o : List Op} (h : Al a b o) : Al (x :: a) b (Op.D :: o)
  | ins (y : α) {a b : List α} {o : List Op} (h : Al a b o) : Al a (y :: b) (Op.I :: o)
def kept (o : List Op) : Nat := o.countP (· == Op.K)
def paid (o : List Op) : Nat := o.countP (· != Op.K)
theorem kept_K (o : List Op) : kept (Op.K :: o) = kept o + 1 := by simp [kept]
theorem kept_D (o : List Op) : kept (Op.D :: o) = kept o := by simp [kept]
theorem kept_I (o : List Op) : kept (Op.I :: o) = kept o := by simp [kept]
theorem paid_K (o : List Op) : paid (Op.K :: o) = paid o := by simp [paid]
theorem paid_D (o : List Op) : paid (Op.D :: o) = paid o + 1 := by simp [paid]
theorem paid_I (o : List Op) : paid (Op.I :: o) = paid o + 1 := by simp [paid]
omit [DecidableEq α] in
theorem Al.lens {a b : List α} {o : List Op} (h : Al a b o) : paid o + 2 * kept o = a.length + b.length := by
  induction h with
  | nil => simp [paid, kept]
  | keep x h ih => rw [kept_K, paid_K]; simp only [List.length_cons]; omega
  | del x h ih => rw [kept_D, paid_D]; simp only [List.length_cons]; omega
  | ins y h ih => rw [kept_I, paid_I]; simp only [List.length_cons]; omega
theorem Al.best {a b : List α} {o : List Op} (h : Al a b o) : kept o ≤ lcs a b := by
  induction h with
  | nil => simp [kept]
  | keep x h ih => rw [kept_K, lcs_same]; omega
  | @del x a b o h ih => rw [kept_D]; exact Nat.le_trans ih (lcs_left x a b)
  | @ins y a b o h ih => rw [kept_I]; exact Nat.le_trans ih (lcs_right y a b)
/-- The alignment that one rule tells. -/
def greedy : List α → List α → List Op
  | [], [] => []
  | _ :: a, [] => Op.D :: greedy a []
  | [], _ :: b => Op.I :: greedy [] b
  | x :: a, y :: b => if x = y then Op.K :: greedy a b else if lcs (x :: a) b ≤ lcs a (y :: b) then Op.D :: greedy a (y :: b) else Op.I :: greedy (x :: a) b
termination_by a b => a.length + b.length
theorem greedy_al : ∀ n (a b : List α), a.length + b.length ≤ n → Al a b (greedy a b) ∧ kept (greedy a b) = lcs a b := by
  intro n
  induction n with
  | zero =>
    intro a b h
    have ha : a = [] := List.eq_nil_of_length_eq_zero (by omega)
    have hb : b = [] := List.eq_nil_of_length_eq_zero (by omega)
    subst ha hb
    rw [greedy]
    exact ⟨Al.nil, by simp [kept, lcs_nil]⟩
  | succ n ih =>
    intro a b h
    cases a with
    | nil =>
      cases b with
      | nil => rw [greedy]; exact ⟨Al.nil, by simp [kept, lcs_nil]⟩
      | cons y b =>
        have := ih [] b (by simp at h ⊢; omega)
        rw [greedy, kept_I, this.2]
        exact ⟨Al.ins y this.1, by rw [lcs_nil, lcs_nil]⟩
    | cons x a =>
      cases b with
      | nil =>
        have := ih a [] (by simp at h ⊢; omega)
        rw [greedy, kept_D, this.2]
        exact ⟨Al.del x this.1, by rw [lcs_nil2, lcs_nil2]⟩
      | cons y b =>
        simp only [List.length_cons] at h
        rw [greedy]
        by_cases e : x = y
        · subst e
          have := ih a b (by omega)
          rw [if_pos rfl, kept_K, lcs_same, this.2]
          exact ⟨Al.keep x this.1, rfl⟩
        · rw [if_neg e, lcs_ne e]
          by_cases c : lcs (x :: a) b ≤ lcs a (y :: b)
          · have := ih a (y :: b) (by simp; omega)
            rw [if_pos c, kept_D, this.2]
            exact ⟨Al.del x this.1, by omega⟩
          · have := ih (x :: a) b (by simp; omega)
            rw [if_neg c, kept_I, this.2]
            exact ⟨Al.ins y this.1, by omega⟩
theorem greedy_is (a b : List α) : Al a b (greedy a b) := (greedy_al _ a b (Nat.le_refl _)).1
theorem greedy_kept (a b : List α) : kept (greedy a b) = lcs a b := (greedy_al _ a b (Nat.le_refl _)).2
end Go.Proofs.Ytikepmdhnbnohaa.Pl
