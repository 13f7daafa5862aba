/- Edit scripts: what a valid one is, its cost, its inverse, and the script of an alignment. No program in sight. Conditions: none. -/
import Derived.Test.YtikepmdhnbnohaaPx0
import Derived.Test.YtikepmdhnbnohaaPx6
import Derived.Test.YtikepmdhnbnohaaPlBase
import Derived.Test.YtikepmdhnbnohaaPlLcs
namespace Go.Proofs.Ytikepmdhnbnohaa.Pl
open Go.RowKit Go.Proofs.YtikepmdhnbnohaaW.PrintWords Go.Proofs.Ytikepmdhnbnohaa.P
set_option linter.unusedSimpArgs false
set_option linter.unusedVariables false
abbrev Ed := S44
/-- A valid script of a list to another one, from two places on; 'f': nothing stands ahead of it. -/
inductive Scr {α : Type} : Bool → Int → Int → List α → List α → List Ed → Prop where
  | nil (f : Bool) (i j : Int) (a : List α) : Scr f i j a a []
  | edit (f : Bool) (i j : Int) (c d e a b : List α) (l : List Ed) (h1 : f = true ∨ c ≠ []) (h2 : d ≠ [] ∨ e ≠ []) (h : Scr false (i + c.length + d.length) (j + c.length + e.length) a b l) :
      Scr f i j (c ++ (d ++ a)) (c ++ (e ++ b)) (⟨i + c.length, d.length, j + c.length, e.length⟩ :: l)
def cost (l : List Ed) : Int := (l.map fun e => e.f1 + e.f3).foldr (· + ·) 0
theorem cost_nil : cost [] = 0 := rfl
theorem cost_cons (e : Ed) (l : List Ed) : cost (e :: l) = e.f1 + e.f3 + cost l := rfl
def inv (l : List Ed) : List Ed := l.map fun e => ⟨e.f2, e.f3, e.f0, e.f1⟩
theorem inv_inv (l : List Ed) : inv (inv l) = l := by
  unfold inv
  rw [List.map_map]
  exact List.map_id'' (fun _ => rfl) l
theorem cost_inv (l : List Ed) : cost (inv l) = cost l := by
  induction l with
  | nil => rfl
  | cons e l ih => rw [show inv (e :: l) = ⟨e.f2, e.f3, e.f0, e.f1⟩ :: inv l from rfl, cost_cons, cost_cons, ih]; dsimp only; omega
theorem Scr.inv {α : Type} {f : Bool} {i j : Int} {a b : List α} {l : List Ed} (h : Scr f i j a b l) : Scr f j i b a (inv l) := by
  induction h with
  | nil f i j a => exact Scr.nil f j i a
  | edit f i j c d e a b l h1 h2 h ih => exact Scr.edit f j i c e d b a (Pl.inv l) h1 (Or.symm h2) ih
theorem Al.keeps {α : Type} {a b : List α} {o : List Op} (c : List α) (h : Al a b o) : Al (c ++ a) (c ++ b) (List.replicate c.length Op.K ++ o) := by
  induction c with
  | nil => exact h
  | cons x c ih => exact Al.keep x ih
theorem Al.dels {α : Type} {a b : List α} {o : List Op} (d : List α) (h : Al a b o) : Al (d ++ a) b (List.replicate d.length Op.D ++ o) := by
  induction d with
  | nil => exact h
  | cons x c ih => exact Al.del x ih
theorem Al.inss {α : Type} {a b : List α} {o : List Op} (d : List α) (h : Al a b o) : Al a (d ++ b) (List.replicate d.length Op.I ++ o) := by
  induction d with
  | nil => exact h
  | cons x c ih => exact Al.ins x ih
theorem paid_app (o o' : List Op) : paid (o ++ o') = paid o + paid o' := by simp [paid]
theorem kept_app (o o' : List Op) : kept (o ++ o') = kept o + kept o' := by simp [kept]
theorem paid_rep (n : Nat) (q : Op) : paid (List.replicate n q) = if q = Op.K then 0 else n := by
  cases q <;> simp [paid, List.countP_replicate]
/-- A valid script is an alignment of its cost. -/
theorem Scr.al {α : Type} {f : Bool} {i j : Int} {a b : List α} {l : List Ed} (h : Scr f i j a b l) : ∃ o, Al a b o ∧ (paid o : Int) = cost l := by
  induction h with
  | nil f i j a =>
    refine ⟨List.replicate a.length Op.K ++ [], ?_, ?_⟩
    · have := Al.keeps a (Al.nil (α := α))
      simpa using this
    · rw [paid_app, paid_rep]; rfl
  | edit f i j c d e a b l h1 h2 h ih =>
    obtain ⟨o, ho, hp⟩ := ih
    refine ⟨_, Al.keeps c (Al.dels d (Al.inss e ho)), ?_⟩
    rw [paid_app, paid_app, paid_app, paid_rep, paid_rep, paid_rep, cost_cons, ← hp]
    simp
    omega
/-- The script of an alignment: 'cur' is the edit that is under way. -/
def scr : List Op → Int → Int → Option Ed → List Ed
  | [], _, _, cur => cur.toList
  | Op.K :: o, i, j, cur => cur.toList ++ scr o (i + 1) (j + 1) none
  | Op.D :: o, i, j, none => scr o (i + 1) j (some ⟨i, 1, j, 0⟩)
  | Op.D :: o, i, j, some e => scr o (i + 1) j (some ⟨e.f0, e.f1 + 1, e.f2, e.f3⟩)
  | Op.I :: o, i, j, none => scr o i (j + 1) (some ⟨i, 0, j, 1⟩)
  | Op.I :: o, i, j, some e => scr o i (j + 1) (some ⟨e.f0, e.f1, e.f2, e.f3 + 1⟩)
/-- What a script under way is. -/
theorem scr_valid {α : Type} {a b : List α} {o : List Op} (h : Al a b o) :
    (∀ (f : Bool) (i j : Int) (c : List α), f = true ∨ c ≠ [] → Scr f (i - c.length) (j - c.length) (c ++ a) (c ++ b) (scr o i j none)) ∧
    (∀ (f : Bool) (i j : Int) (c d e : List α), f = true ∨ c ≠ [] → d ≠ [] ∨ e ≠ [] → Scr f (i - d.length - c.length) (j - e.length - c.length) (c ++ (d ++ a)) (c ++ (e ++ b)) (scr o i j (some ⟨i - d.length, d.length, j - e.length, e.length⟩))) := by
  induction h with
  | nil =>
    refine ⟨fun f i j c hc => ?_, fun f i j c d e hc hde => ?_⟩
    · exact Scr.nil f _ _ _
    · have := Scr.edit f (i - d.length - c.length) (j - e.length - c.length) c d e [] [] [] hc hde (Scr.nil false _ _ _)
      rw [show i - (d.length : Int) - c.length + c.length = i - d.length by omega, show j - (e.length : Int) - c.length + c.length = j - e.length by omega] at this
      exact this
  | @keep x a b o h ih =>
    refine ⟨fun f i j c hc => ?_, fun f i j c d e hc hde => ?_⟩
    · have := ih.1 f (i + 1) (j + 1) (c ++ [x]) (.inr (by simp))
      rw [List.length_append, List.length_singleton, show i + 1 - ((c.length + 1 : Nat) : Int) = i - c.length by omega, show j + 1 - ((c.length + 1 : Nat) : Int) = j - c.length by omega, List.append_assoc, List.append_assoc] at this
      exact this
    · have := ih.1 false (i + 1) (j + 1) [x] (.inr (by simp))
      rw [List.length_singleton, show i + 1 - ((1 : Nat) : Int) = i by omega, show j + 1 - ((1 : Nat) : Int) = j by omega] at this
      have h2 := Scr.edit f (i - d.length - c.length) (j - e.length - c.length) c d e (x :: a) (x :: b) (scr o (i + 1) (j + 1) none) hc hde (by
        rw [show i - (d.length : Int) - c.length + c.length + d.length = i by omega, show j - (e.length : Int) - c.length + c.length + e.length = j by omega]
        exact this)
      rw [show i - (d.length : Int) - c.length + c.length = i - d.length by omega, show j - (e.length : Int) - c.length + c.length = j - e.length by omega] at h2
      exact h2
  | @del x a b o h ih =>
    refine ⟨fun f i j c hc => ?_, fun f i j c d e hc hde => ?_⟩
    · have := ih.2 f (i + 1) j c [x] [] hc (.inl (by simp))
      rw [List.length_singleton, List.length_nil, show i + 1 - ((1 : Nat) : Int) = i by omega, show j - ((0 : Nat) : Int) = j by omega] at this
      exact this
    · have := ih.2 f (i + 1) j c (d ++ [x]) e hc (.inl (by simp))
      rw [List.length_append, List.length_singleton, show i + 1 - ((d.length + 1 : Nat) : Int) = i - d.length by omega, List.append_assoc] at this
      rw [scr]
      dsimp only
      rw [show (d.length : Int) + 1 = ((d.length + 1 : Nat) : Int) by omega]
      exact this
  | @ins y a b o h ih =>
    refine ⟨fun f i j c hc => ?_, fun f i j c d e hc hde => ?_⟩
    · have := ih.2 f i (j + 1) c [] [y] hc (.inr (by simp))
      rw [List.length_singleton, List.length_nil, show j + 1 - ((1 : Nat) : Int) = j by omega, show i - ((0 : Nat) : Int) = i by omega] at this
      exact this
    · have := ih.2 f i (j + 1) c d (e ++ [y]) hc (.inr (by simp))
      rw [List.length_append, List.length_singleton, show j + 1 - ((e.length + 1 : Nat) : Int) = j - e.length by omega, List.append_assoc] at this
      rw [scr]
      dsimp only
      rw [show (e.length : Int) + 1 = ((e.length + 1 : Nat) : Int) by omega]
      exact this
theorem scr_is {α : Type} {a b : List α} {o : List Op} (h : Al a b o) : Scr true 0 0 a b (scr o 0 0 none) := by
  have := (scr_valid h).1 true 0 0 [] (.inl rfl)
  simpa using this
theorem scr_cost : ∀ (o : List Op) (i j : Int) (cur : Option Ed), cost (scr o i j cur) = (paid o : Int) + cost cur.toList := by
  intro o
  induction o with
  | nil => intro i j cur; simp [scr, paid]
  | cons q o ih =>
    intro i j cur
    cases q with
    | K =>
      rw [scr, paid_K]
      have happ : ∀ l l' : List Ed, cost (l ++ l') = cost l + cost l' := by
        intro l l'
        induction l with
        | nil => simp [cost_nil]
        | cons e l ih => rw [List.cons_append, cost_cons, cost_cons, ih]; omega
      rw [happ, ih]
      simp [cost_nil]
      omega
    | D => cases cur <;> (rw [scr, ih, paid_D]; simp [cost_cons, cost_nil] <;> omega)
    | I => cases cur <;> (rw [scr, ih, paid_I]; simp [cost_cons, cost_nil] <;> omega)
end Go.Proofs.Ytikepmdhnbnohaa.Pl
