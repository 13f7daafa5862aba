/- What the functions compute, and the law HistoRuns in plain lists: part 1. Conditions: none. -/
import Derived.KernelRfl
import Derived.Test.YtmmcepbcjlopdaaFHistoRuns
/- Runs that two lists have in common: what the anchor is. Plain lists. Conditions: none. -/
namespace Go.Proofs.Ytmmcepbcjlopdaa.E.Hs
set_option linter.unusedVariables false

abbrev S := List UInt8
/-- How long two lists are the same at their beginning. -/
def lcp : List S → List S → Nat
  | x :: a, y :: b => if x = y then lcp a b + 1 else 0
  | _, _ => 0
theorem lcp_le : ∀ a b : List S, lcp a b ≤ a.length ∧ lcp a b ≤ b.length
  | [], _ => by simp [lcp]
  | _ :: _, [] => by simp [lcp]
  | x :: a, y :: b => by
    have := lcp_le a b
    simp only [lcp, List.length_cons]
    split <;> omega
theorem lcp_lt : ∀ (a b : List S) (n : Nat), n < lcp a b → ∃ s, a[n]? = some s ∧ b[n]? = some s
  | [], _, n, h => by simp [lcp] at h
  | _ :: _, [], n, h => by simp [lcp] at h
  | x :: a, y :: b, n, h => by
    simp only [lcp] at h
    split at h
    · rename_i e
      subst e
      cases n with
      | zero => exact ⟨x, rfl, rfl⟩
      | succ n => simpa using lcp_lt a b n (by omega)
    · omega
theorem lcp_end : ∀ (a b : List S) (s t : S), a[lcp a b]? = some s → b[lcp a b]? = some t → s ≠ t
  | [], _, s, t, h, _ => by simp at h
  | _ :: _, [], s, t, _, h => by simp at h
  | x :: a, y :: b, s, t, h1, h2 => by
    simp only [lcp] at h1 h2
    split at h1
    · rename_i e
      rw [if_pos e] at h2
      exact lcp_end a b s t (by simpa using h1) (by simpa using h2)
    · rename_i e
      rw [if_neg e] at h2
      simp at h1 h2
      subst h1; subst h2
      exact e
/-- So long as the lists go on alike, and no longer. -/
theorem lcp_is (a b : List S) (n : Nat) (h1 : ∀ m, m < n → ∃ s, a[m]? = some s ∧ b[m]? = some s) (h2 : ∀ s, a[n]? = some s → b[n]? = some s → False) : lcp a b = n := by
  rcases Nat.lt_trichotomy (lcp a b) n with h | h | h
  · obtain ⟨s, e1, e2⟩ := h1 _ h
    exact absurd rfl (lcp_end a b s s e1 e2)
  · exact h
  · obtain ⟨s, e1, e2⟩ := lcp_lt a b n h
    exact (h2 s e1 e2).elim

structure Rn where
  A : Nat
  B : Nat
  N : Nat deriving DecidableEq
/-- Back to where a run begins. -/
def back (a b : List S) : Nat → Nat → Nat × Nat
  | i + 1, k + 1 => if a[i]? = b[k]? then back a b i k else (i + 1, k + 1)
  | i, k => (i, k)
def runOf (a b : List S) (i k : Nat) : Rn := ⟨(back a b i k).1, (back a b i k).2, lcp (a.drop (back a b i k).1) (b.drop (back a b i k).2)⟩
/-- How often the rarest line of a run stands in the list. -/
def rare (m : Nat) (a : List S) (r : Rn) : Nat := ((a.drop r.A).take r.N).foldl (fun m s => min m (a.count s)) m
/-- The rarer run; the longer; the one further ahead. -/
def bet (m : Nat) (a : List S) (x y : Rn) : Bool :=
  if rare m a x ≠ rare m a y then decide (rare m a x < rare m a y) else if x.N ≠ y.N then decide (y.N < x.N) else if x.A ≠ y.A then decide (x.A < y.A) else decide (x.B < y.B)

theorem back_le (a b : List S) : ∀ i k, (back a b i k).1 ≤ i ∧ (back a b i k).2 ≤ k ∧ (back a b i k).1 + k = (back a b i k).2 + i
  | 0, k => by simp [back]
  | i + 1, 0 => by simp [back]
  | i + 1, k + 1 => by
    have := back_le a b i k
    simp only [back]
    split
    · omega
    · simp; omega

/-- A place where a run begins. -/
def Start (a b : List S) (i k : Nat) : Prop := (∃ s, a[i]? = some s ∧ b[k]? = some s) ∧ ¬ (0 < i ∧ 0 < k ∧ a[i - 1]? = b[k - 1]?)
/-- The runs that may be the anchor. -/
def Cand (a b : List S) (r : Rn) : Prop := Start a b r.A r.B ∧ r.N = lcp (a.drop r.A) (b.drop r.B) ∧ rare 65 a r ≤ 64

theorem back_start (a b : List S) : ∀ i k, (∃ s, a[i]? = some s ∧ b[k]? = some s) → Start a b (back a b i k).1 (back a b i k).2
  | 0, k, h => by simp only [back]; exact ⟨h, by simp⟩
  | i + 1, 0, h => by simp only [back]; exact ⟨h, by simp⟩
  | i + 1, k + 1, h => by
    simp only [back]
    split
    · rename_i e
      refine back_start a b i k ?_
      obtain ⟨s, h1, h2⟩ := h
      have : i < a.length := by have := (List.getElem?_eq_some_iff.1 h1).1; omega
      exact ⟨a[i], List.getElem?_eq_getElem this, by rw [← e]; exact List.getElem?_eq_getElem this⟩
    · rename_i e
      exact ⟨h, by simpa using e⟩
theorem back_of_start (a b : List S) (i k : Nat) (h : Start a b i k) : back a b i k = (i, k) := by
  match i, k with
  | 0, k => rfl
  | i + 1, 0 => rfl
  | i + 1, k + 1 =>
    simp only [back]
    rw [if_neg]
    exact fun e => h.2 ⟨by omega, by omega, by simpa using e⟩

theorem lcp_pos {a b : List S} {i k : Nat} (h : ∃ s, a[i]? = some s ∧ b[k]? = some s) : 0 < lcp (a.drop i) (b.drop k) := by
  obtain ⟨s, h1, h2⟩ := h
  obtain ⟨l1, e1⟩ := List.getElem?_eq_some_iff.1 h1
  obtain ⟨l2, e2⟩ := List.getElem?_eq_some_iff.1 h2
  rw [List.drop_eq_getElem_cons l1, List.drop_eq_getElem_cons l2, e1, e2]
  simp [lcp]

theorem fold_min_le (f : S → Nat) : ∀ (l : List S) (m : Nat), l.foldl (fun m s => min m (f s)) m ≤ m ∧ ∀ s ∈ l, l.foldl (fun m s => min m (f s)) m ≤ f s
  | [], m => by simp
  | x :: l, m => by
    obtain ⟨h1, h2⟩ := fold_min_le f l (min m (f x))
    simp only [List.foldl_cons]
    refine ⟨by omega, fun s hs => ?_⟩
    rcases List.mem_cons.1 hs with rfl | hs
    · omega
    · exact h2 s hs
theorem fold_min_is (f : S → Nat) : ∀ (l : List S) (m : Nat), l.foldl (fun m s => min m (f s)) m = m ∨ ∃ s ∈ l, l.foldl (fun m s => min m (f s)) m = f s
  | [], m => by simp
  | x :: l, m => by
    simp only [List.foldl_cons]
    rcases fold_min_is f l (min m (f x)) with h | ⟨s, hs, h⟩
    · rw [h]
      by_cases c : m ≤ f x
      · left; omega
      · right; exact ⟨x, by simp, by omega⟩
    · right; exact ⟨s, by simp [hs], h⟩
/-- The reference's start does not matter. -/
theorem rare_len (a : List S) (r : Rn) (h0 : 0 < r.N) (h1 : r.A + r.N ≤ a.length) : rare 65 a r = min 65 (rare a.length a r) := by
  unfold rare
  have hl : 0 < ((a.drop r.A).take r.N).length := by simp; omega
  obtain ⟨x, l, hx⟩ : ∃ x l, (a.drop r.A).take r.N = x :: l := by
    cases h : (a.drop r.A).take r.N with
    | nil => rw [h] at hl; simp at hl
    | cons x l => exact ⟨x, l, rfl⟩
  rw [hx]
  have g1 := fold_min_le a.count (x :: l) 65
  have g2 := fold_min_is a.count (x :: l) 65
  have g3 := fold_min_le a.count (x :: l) a.length
  have g4 := fold_min_is a.count (x :: l) a.length
  have hc : ∀ s, a.count s ≤ a.length := fun s => List.count_le_length
  have key : (∀ s ∈ x :: l, (x :: l).foldl (fun m s => min m (a.count s)) a.length ≤ a.count s) ∧ ∃ s ∈ x :: l, (x :: l).foldl (fun m s => min m (a.count s)) a.length = a.count s := by
    refine ⟨g3.2, ?_⟩
    rcases g4 with h | h
    · exact ⟨x, by simp, by have := g3.2 x (by simp); have := hc x; omega⟩
    · exact h
  obtain ⟨k1, s, hs, k2⟩ := key
  generalize (x :: l).foldl (fun m s => min m (a.count s)) a.length = L at *
  generalize (x :: l).foldl (fun m s => min m (a.count s)) 65 = M at *
  have := g1.2 s hs
  rcases g2 with h | ⟨t, ht, h⟩
  · omega
  · have := k1 t ht; omega

/-- The first among the best: one that no other beats. -/
def IsAnchor (a b : List S) (o : Option Rn) : Prop := match o with
  | some r => Cand a b r ∧ ∀ y, Cand a b y → y = r ∨ bet 65 a r y = true
  | none => ∀ y, ¬ Cand a b y
theorem bet_asymm (m : Nat) (a : List S) (x y : Rn) (h1 : bet m a x y = true) (h2 : bet m a y x = true) : False := by
  unfold bet at h1 h2
  generalize rare m a x = p at *
  generalize rare m a y = q at *
  simp only [ne_eq, ite_not] at h1 h2
  by_cases e1 : p = q
  · subst e1
    simp only [if_true] at h1 h2
    by_cases e2 : x.N = y.N
    · rw [if_pos e2] at h1; rw [if_pos e2.symm] at h2
      by_cases e3 : x.A = y.A
      · rw [if_pos e3] at h1; rw [if_pos e3.symm] at h2
        simp at h1 h2; omega
      · rw [if_neg e3] at h1; rw [if_neg fun e => e3 e.symm] at h2
        simp at h1 h2; omega
    · rw [if_neg e2] at h1; rw [if_neg fun e => e2 e.symm] at h2
      simp at h1 h2; omega
  · rw [if_neg e1] at h1; rw [if_neg fun e => e1 e.symm] at h2
    simp at h1 h2; omega
theorem IsAnchor.uniq {a b : List S} {o o' : Option Rn} (h : IsAnchor a b o) (h' : IsAnchor a b o') : o = o' := by
  cases o with
  | none =>
    cases o' with
    | none => rfl
    | some r => exact (h r h'.1).elim
  | some r =>
    cases o' with
    | none => exact (h' r h.1).elim
    | some r' =>
      rcases h.2 r' h'.1 with e | e
      · rw [e]
      · rcases h'.2 r h.1 with e' | e'
        · rw [e']
        · exact (bet_asymm 65 a r r' e e').elim

end Go.Proofs.Ytmmcepbcjlopdaa.E.Hs

/- Small functions of chapter 9: what they compute. Conditions: none. -/
namespace Go.Proofs.Ytmmcepbcjlopdaa.E.Hs
set_option linter.unusedVariables false
set_option linter.unusedSimpArgs false
set_option maxHeartbeats 20000000

/-- What several cases come to is proved once. -/
structure Hold (P : Prop) : Prop where
  out : P
theorem shareL {P Q : Prop} (h : Hold P → Q) (k : P) : Q := h ⟨k⟩
def small (a : List S) : Bool := decide (a.length ≤ 100) && a.all fun s => decide (s.length ≤ 200)

theorem small_spec (o : Bool) (a : List S) (hl : a.length ≤ 17592186044416) : Run tab 8 0 [.sl o 1 (a.map .str)] [] 0 (fun r _ _ => r = .bool (small a)) := by
  refine enter (F := f8) rfl rfl ?_
  simp only [f8, ex,reduceIte,reduceCtorEq,Nat.reduceEqDiff,Nat.reduceLT,Nat.reduceLeDiff,Nat.reduceAdd,Nat.reduceSub,Nat.reduceMul,Int.reduceAdd,Int.reduceSub,Int.reduceMul,Int.reduceNeg,Int.reduceLE,Int.reduceLT,Int.reduceEq,Int.reduceToNat]
  refine ifB.intro (fun h => ?_) (fun h => ?_)
  · (try simp only [ex,reduceIte,reduceCtorEq,Nat.reduceEqDiff,Nat.reduceLT,Nat.reduceLeDiff,Nat.reduceAdd,Nat.reduceSub,Nat.reduceMul,Int.reduceAdd,Int.reduceSub,Int.reduceMul,Int.reduceNeg,Int.reduceLE,Int.reduceLT,Int.reduceEq,Int.reduceToNat]) <;> repeat ((with_reducible refine Req.intro ?_ ?_); (first | omega | (simp <;> omega)); try simp only [ex,reduceIte,reduceCtorEq,Nat.reduceEqDiff,Nat.reduceLT,Nat.reduceLeDiff,Nat.reduceAdd,Nat.reduceSub,Nat.reduceMul,Int.reduceAdd,Int.reduceSub,Int.reduceMul,Int.reduceNeg,Int.reduceLE,Int.reduceLT,Int.reduceEq,Int.reduceToNat])
    simp at h
    simp [small]; omega
  · simp at h
    (try simp only [ex,reduceIte,reduceCtorEq,Nat.reduceEqDiff,Nat.reduceLT,Nat.reduceLeDiff,Nat.reduceAdd,Nat.reduceSub,Nat.reduceMul,Int.reduceAdd,Int.reduceSub,Int.reduceMul,Int.reduceNeg,Int.reduceLE,Int.reduceLT,Int.reduceEq,Int.reduceToNat]) <;> repeat ((with_reducible refine Req.intro ?_ ?_); (first | omega | (simp <;> omega)); try simp only [ex,reduceIte,reduceCtorEq,Nat.reduceEqDiff,Nat.reduceLT,Nat.reduceLeDiff,Nat.reduceAdd,Nat.reduceSub,Nat.reduceMul,Int.reduceAdd,Int.reduceSub,Int.reduceMul,Int.reduceNeg,Int.reduceLE,Int.reduceLT,Int.reduceEq,Int.reduceToNat])
    refine loopI fun L hL => ?_
    simp only [ex,reduceIte,reduceCtorEq,Nat.reduceEqDiff,Nat.reduceLT,Nat.reduceLeDiff,Nat.reduceAdd,Nat.reduceSub,Nat.reduceMul,Int.reduceAdd,Int.reduceSub,Int.reduceMul,Int.reduceNeg,Int.reduceLE,Int.reduceLT,Int.reduceEq,Int.reduceToNat]
    have key : ∀ m i : Nat, i + m = a.length → (a.take i).all (fun s => decide (s.length ≤ 200)) = true → L (L8_1 (.sl o 1 (a.map .str)) (.int .i64 i) [] 0) := by
      intro m
      induction m with
      | zero =>
        intro i hi ha
        apply hL
        simp only [L8_1, l8_1, ex,reduceIte,reduceCtorEq,Nat.reduceEqDiff,Nat.reduceLT,Nat.reduceLeDiff,Nat.reduceAdd,Nat.reduceSub,Nat.reduceMul,Int.reduceAdd,Int.reduceSub,Int.reduceMul,Int.reduceNeg,Int.reduceLE,Int.reduceLT,Int.reduceEq,Int.reduceToNat]
        refine ifB.no (by simp; omega) ?_
        (try simp only [ex,reduceIte,reduceCtorEq,Nat.reduceEqDiff,Nat.reduceLT,Nat.reduceLeDiff,Nat.reduceAdd,Nat.reduceSub,Nat.reduceMul,Int.reduceAdd,Int.reduceSub,Int.reduceMul,Int.reduceNeg,Int.reduceLE,Int.reduceLT,Int.reduceEq,Int.reduceToNat]) <;> repeat ((with_reducible refine Req.intro ?_ ?_); (first | omega | (simp <;> omega)); try simp only [ex,reduceIte,reduceCtorEq,Nat.reduceEqDiff,Nat.reduceLT,Nat.reduceLeDiff,Nat.reduceAdd,Nat.reduceSub,Nat.reduceMul,Int.reduceAdd,Int.reduceSub,Int.reduceMul,Int.reduceNeg,Int.reduceLE,Int.reduceLT,Int.reduceEq,Int.reduceToNat])
        rw [List.take_of_length_le (by omega)] at ha
        simp [small, ha]; omega
      | succ m ih =>
        intro i hi ha
        apply hL
        simp only [L8_1, l8_1, ex,reduceIte,reduceCtorEq,Nat.reduceEqDiff,Nat.reduceLT,Nat.reduceLeDiff,Nat.reduceAdd,Nat.reduceSub,Nat.reduceMul,Int.reduceAdd,Int.reduceSub,Int.reduceMul,Int.reduceNeg,Int.reduceLE,Int.reduceLT,Int.reduceEq,Int.reduceToNat]
        refine ifB.yes (by simp; omega) ?_
        (try simp only [ex,reduceIte,reduceCtorEq,Nat.reduceEqDiff,Nat.reduceLT,Nat.reduceLeDiff,Nat.reduceAdd,Nat.reduceSub,Nat.reduceMul,Int.reduceAdd,Int.reduceSub,Int.reduceMul,Int.reduceNeg,Int.reduceLE,Int.reduceLT,Int.reduceEq,Int.reduceToNat]) <;> repeat ((with_reducible refine Req.intro ?_ ?_); (first | omega | (simp <;> omega)); try simp only [ex,reduceIte,reduceCtorEq,Nat.reduceEqDiff,Nat.reduceLT,Nat.reduceLeDiff,Nat.reduceAdd,Nat.reduceSub,Nat.reduceMul,Int.reduceAdd,Int.reduceSub,Int.reduceMul,Int.reduceNeg,Int.reduceLE,Int.reduceLT,Int.reduceEq,Int.reduceToNat])
        refine WK.idx (by omega) fun x hx => ?_
        (try simp only [ex,reduceIte,reduceCtorEq,Nat.reduceEqDiff,Nat.reduceLT,Nat.reduceLeDiff,Nat.reduceAdd,Nat.reduceSub,Nat.reduceMul,Int.reduceAdd,Int.reduceSub,Int.reduceMul,Int.reduceNeg,Int.reduceLE,Int.reduceLT,Int.reduceEq,Int.reduceToNat]) <;> repeat ((with_reducible refine Req.intro ?_ ?_); (first | omega | (simp <;> omega)); try simp only [ex,reduceIte,reduceCtorEq,Nat.reduceEqDiff,Nat.reduceLT,Nat.reduceLeDiff,Nat.reduceAdd,Nat.reduceSub,Nat.reduceMul,Int.reduceAdd,Int.reduceSub,Int.reduceMul,Int.reduceNeg,Int.reduceLE,Int.reduceLT,Int.reduceEq,Int.reduceToNat])
        refine ifB.intro (fun h => ?_) (fun h => ?_)
        · (try simp only [ex,reduceIte,reduceCtorEq,Nat.reduceEqDiff,Nat.reduceLT,Nat.reduceLeDiff,Nat.reduceAdd,Nat.reduceSub,Nat.reduceMul,Int.reduceAdd,Int.reduceSub,Int.reduceMul,Int.reduceNeg,Int.reduceLE,Int.reduceLT,Int.reduceEq,Int.reduceToNat]) <;> repeat ((with_reducible refine Req.intro ?_ ?_); (first | omega | (simp <;> omega)); try simp only [ex,reduceIte,reduceCtorEq,Nat.reduceEqDiff,Nat.reduceLT,Nat.reduceLeDiff,Nat.reduceAdd,Nat.reduceSub,Nat.reduceMul,Int.reduceAdd,Int.reduceSub,Int.reduceMul,Int.reduceNeg,Int.reduceLE,Int.reduceLT,Int.reduceEq,Int.reduceToNat])
          have hm : x ∈ a := List.mem_of_getElem? hx
          have : a.all (fun s => decide (s.length ≤ 200)) = false := by
            rw [List.all_eq_false]
            exact ⟨x, hm, by simp at h ⊢; omega⟩
          simp [small, this]
        · (try simp only [ex,reduceIte,reduceCtorEq,Nat.reduceEqDiff,Nat.reduceLT,Nat.reduceLeDiff,Nat.reduceAdd,Nat.reduceSub,Nat.reduceMul,Int.reduceAdd,Int.reduceSub,Int.reduceMul,Int.reduceNeg,Int.reduceLE,Int.reduceLT,Int.reduceEq,Int.reduceToNat]) <;> repeat ((with_reducible refine Req.intro ?_ ?_); (first | omega | (simp <;> omega)); try simp only [ex,reduceIte,reduceCtorEq,Nat.reduceEqDiff,Nat.reduceLT,Nat.reduceLeDiff,Nat.reduceAdd,Nat.reduceSub,Nat.reduceMul,Int.reduceAdd,Int.reduceSub,Int.reduceMul,Int.reduceNeg,Int.reduceLE,Int.reduceLT,Int.reduceEq,Int.reduceToNat])
          have := ih (i + 1) (by omega) (by
            rw [List.take_add_one, hx]
            simp at h
            simp [ha]; omega)
          simpa [L8_1] using this
    exact key a.length 0 (by omega) (by simp)

theorem count_le (a : List S) (s : S) (i : Nat) : (a.take i).count s ≤ a.length := Nat.le_trans List.count_le_length (by simp; omega)
theorem count_spec (o : Bool) (a : List S) (s : S) (hl : a.length ≤ 17592186044416) : Run tab 15 0 [.sl o 1 (a.map .str), .str s] [] 0 (fun r _ _ => r = .int .i64 (a.count s : Nat)) := by
  refine enter (F := f15) rfl rfl ?_
  simp only [f15, ex,reduceIte,reduceCtorEq,Nat.reduceEqDiff,Nat.reduceLT,Nat.reduceLeDiff,Nat.reduceAdd,Nat.reduceSub,Nat.reduceMul,Int.reduceAdd,Int.reduceSub,Int.reduceMul,Int.reduceNeg,Int.reduceLE,Int.reduceLT,Int.reduceEq,Int.reduceToNat]
  refine loopI fun L hL => ?_
  simp only [ex,reduceIte,reduceCtorEq,Nat.reduceEqDiff,Nat.reduceLT,Nat.reduceLeDiff,Nat.reduceAdd,Nat.reduceSub,Nat.reduceMul,Int.reduceAdd,Int.reduceSub,Int.reduceMul,Int.reduceNeg,Int.reduceLE,Int.reduceLT,Int.reduceEq,Int.reduceToNat]
  have key : ∀ m i : Nat, i + m = a.length → L (L15_1 (.str s) (.int .i64 ((a.take i).count s : Nat)) (.sl o 1 (a.map .str)) (.int .i64 a.length) (.int .i64 i) [] 0) := by
    intro m
    induction m with
    | zero =>
      intro i hi
      apply hL
      simp only [L15_1, l15_1, ex,reduceIte,reduceCtorEq,Nat.reduceEqDiff,Nat.reduceLT,Nat.reduceLeDiff,Nat.reduceAdd,Nat.reduceSub,Nat.reduceMul,Int.reduceAdd,Int.reduceSub,Int.reduceMul,Int.reduceNeg,Int.reduceLE,Int.reduceLT,Int.reduceEq,Int.reduceToNat]
      refine ifB.no (by simp; omega) ?_
      simp only [ex,reduceIte,reduceCtorEq,Nat.reduceEqDiff,Nat.reduceLT,Nat.reduceLeDiff,Nat.reduceAdd,Nat.reduceSub,Nat.reduceMul,Int.reduceAdd,Int.reduceSub,Int.reduceMul,Int.reduceNeg,Int.reduceLE,Int.reduceLT,Int.reduceEq,Int.reduceToNat]
      rw [List.take_of_length_le (by omega)]
    | succ m ih =>
      intro i hi
      apply hL
      simp only [L15_1, l15_1, ex,reduceIte,reduceCtorEq,Nat.reduceEqDiff,Nat.reduceLT,Nat.reduceLeDiff,Nat.reduceAdd,Nat.reduceSub,Nat.reduceMul,Int.reduceAdd,Int.reduceSub,Int.reduceMul,Int.reduceNeg,Int.reduceLE,Int.reduceLT,Int.reduceEq,Int.reduceToNat]
      refine ifB.yes (by simp; omega) ?_
      simp only [ex,reduceIte,reduceCtorEq,Nat.reduceEqDiff,Nat.reduceLT,Nat.reduceLeDiff,Nat.reduceAdd,Nat.reduceSub,Nat.reduceMul,Int.reduceAdd,Int.reduceSub,Int.reduceMul,Int.reduceNeg,Int.reduceLE,Int.reduceLT,Int.reduceEq,Int.reduceToNat]
      refine WK.idx (by omega) fun x hx => ?_
      simp only [ex,reduceIte,reduceCtorEq,Nat.reduceEqDiff,Nat.reduceLT,Nat.reduceLeDiff,Nat.reduceAdd,Nat.reduceSub,Nat.reduceMul,Int.reduceAdd,Int.reduceSub,Int.reduceMul,Int.reduceNeg,Int.reduceLE,Int.reduceLT,Int.reduceEq,Int.reduceToNat]
      have h2 := ih (i + 1) (by omega)
      rw [List.take_add_one, hx] at h2
      have h3 := count_le a s i
      refine ifB.intro (fun h => ?_) (fun h => ?_)
      · (try simp only [ex,reduceIte,reduceCtorEq,Nat.reduceEqDiff,Nat.reduceLT,Nat.reduceLeDiff,Nat.reduceAdd,Nat.reduceSub,Nat.reduceMul,Int.reduceAdd,Int.reduceSub,Int.reduceMul,Int.reduceNeg,Int.reduceLE,Int.reduceLT,Int.reduceEq,Int.reduceToNat]) <;> repeat ((with_reducible refine Req.intro ?_ ?_); (first | omega | (simp <;> omega)); try simp only [ex,reduceIte,reduceCtorEq,Nat.reduceEqDiff,Nat.reduceLT,Nat.reduceLeDiff,Nat.reduceAdd,Nat.reduceSub,Nat.reduceMul,Int.reduceAdd,Int.reduceSub,Int.reduceMul,Int.reduceNeg,Int.reduceLE,Int.reduceLT,Int.reduceEq,Int.reduceToNat])
        simp at h
        simpa [L15_1, h] using h2
      · (try simp only [ex,reduceIte,reduceCtorEq,Nat.reduceEqDiff,Nat.reduceLT,Nat.reduceLeDiff,Nat.reduceAdd,Nat.reduceSub,Nat.reduceMul,Int.reduceAdd,Int.reduceSub,Int.reduceMul,Int.reduceNeg,Int.reduceLE,Int.reduceLT,Int.reduceEq,Int.reduceToNat]) <;> repeat ((with_reducible refine Req.intro ?_ ?_); (first | omega | (simp <;> omega)); try simp only [ex,reduceIte,reduceCtorEq,Nat.reduceEqDiff,Nat.reduceLT,Nat.reduceLeDiff,Nat.reduceAdd,Nat.reduceSub,Nat.reduceMul,Int.reduceAdd,Int.reduceSub,Int.reduceMul,Int.reduceNeg,Int.reduceLE,Int.reduceLT,Int.reduceEq,Int.reduceToNat])
        simp at h
        simpa [L15_1, h, List.count_cons] using h2
  exact key a.length 0 (by omega)
theorem rcount_spec (o : Bool) (a : List S) (s : S) (hl : a.length ≤ 17592186044416) : Run tab 16 0 [.sl o 1 (a.map .str), .str s] [] 0 (fun r _ _ => r = .int .i64 (a.count s : Nat)) := by
  refine enter (F := f16) rfl rfl ?_
  simp only [f16, ex,reduceIte,reduceCtorEq,Nat.reduceEqDiff,Nat.reduceLT,Nat.reduceLeDiff,Nat.reduceAdd,Nat.reduceSub,Nat.reduceMul,Int.reduceAdd,Int.reduceSub,Int.reduceMul,Int.reduceNeg,Int.reduceLE,Int.reduceLT,Int.reduceEq,Int.reduceToNat]
  refine loopI fun L hL => ?_
  simp only [ex,reduceIte,reduceCtorEq,Nat.reduceEqDiff,Nat.reduceLT,Nat.reduceLeDiff,Nat.reduceAdd,Nat.reduceSub,Nat.reduceMul,Int.reduceAdd,Int.reduceSub,Int.reduceMul,Int.reduceNeg,Int.reduceLE,Int.reduceLT,Int.reduceEq,Int.reduceToNat]
  have key : ∀ m i : Nat, i + m = a.length → L (L16_1 (.sl o 1 (a.map .str)) (.str s) (.int .i64 ((a.take i).count s : Nat)) (.int .i64 i) [] 0) := by
    intro m
    induction m with
    | zero =>
      intro i hi
      apply hL
      simp only [L16_1, l16_1, ex,reduceIte,reduceCtorEq,Nat.reduceEqDiff,Nat.reduceLT,Nat.reduceLeDiff,Nat.reduceAdd,Nat.reduceSub,Nat.reduceMul,Int.reduceAdd,Int.reduceSub,Int.reduceMul,Int.reduceNeg,Int.reduceLE,Int.reduceLT,Int.reduceEq,Int.reduceToNat]
      refine ifB.no (by simp; omega) ?_
      simp only [ex,reduceIte,reduceCtorEq,Nat.reduceEqDiff,Nat.reduceLT,Nat.reduceLeDiff,Nat.reduceAdd,Nat.reduceSub,Nat.reduceMul,Int.reduceAdd,Int.reduceSub,Int.reduceMul,Int.reduceNeg,Int.reduceLE,Int.reduceLT,Int.reduceEq,Int.reduceToNat]
      rw [List.take_of_length_le (by omega)]
    | succ m ih =>
      intro i hi
      apply hL
      simp only [L16_1, l16_1, ex,reduceIte,reduceCtorEq,Nat.reduceEqDiff,Nat.reduceLT,Nat.reduceLeDiff,Nat.reduceAdd,Nat.reduceSub,Nat.reduceMul,Int.reduceAdd,Int.reduceSub,Int.reduceMul,Int.reduceNeg,Int.reduceLE,Int.reduceLT,Int.reduceEq,Int.reduceToNat]
      refine ifB.yes (by simp; omega) ?_
      (try simp only [ex,reduceIte,reduceCtorEq,Nat.reduceEqDiff,Nat.reduceLT,Nat.reduceLeDiff,Nat.reduceAdd,Nat.reduceSub,Nat.reduceMul,Int.reduceAdd,Int.reduceSub,Int.reduceMul,Int.reduceNeg,Int.reduceLE,Int.reduceLT,Int.reduceEq,Int.reduceToNat]) <;> repeat ((with_reducible refine Req.intro ?_ ?_); (first | omega | (simp <;> omega)); try simp only [ex,reduceIte,reduceCtorEq,Nat.reduceEqDiff,Nat.reduceLT,Nat.reduceLeDiff,Nat.reduceAdd,Nat.reduceSub,Nat.reduceMul,Int.reduceAdd,Int.reduceSub,Int.reduceMul,Int.reduceNeg,Int.reduceLE,Int.reduceLT,Int.reduceEq,Int.reduceToNat])
      refine WK.idx (by omega) fun x hx => ?_
      simp only [ex,reduceIte,reduceCtorEq,Nat.reduceEqDiff,Nat.reduceLT,Nat.reduceLeDiff,Nat.reduceAdd,Nat.reduceSub,Nat.reduceMul,Int.reduceAdd,Int.reduceSub,Int.reduceMul,Int.reduceNeg,Int.reduceLE,Int.reduceLT,Int.reduceEq,Int.reduceToNat]
      have h2 := ih (i + 1) (by omega)
      rw [List.take_add_one, hx] at h2
      have h3 := count_le a s i
      refine ifB.intro (fun h => ?_) (fun h => ?_)
      · (try simp only [ex,reduceIte,reduceCtorEq,Nat.reduceEqDiff,Nat.reduceLT,Nat.reduceLeDiff,Nat.reduceAdd,Nat.reduceSub,Nat.reduceMul,Int.reduceAdd,Int.reduceSub,Int.reduceMul,Int.reduceNeg,Int.reduceLE,Int.reduceLT,Int.reduceEq,Int.reduceToNat]) <;> repeat ((with_reducible refine Req.intro ?_ ?_); (first | omega | (simp <;> omega)); try simp only [ex,reduceIte,reduceCtorEq,Nat.reduceEqDiff,Nat.reduceLT,Nat.reduceLeDiff,Nat.reduceAdd,Nat.reduceSub,Nat.reduceMul,Int.reduceAdd,Int.reduceSub,Int.reduceMul,Int.reduceNeg,Int.reduceLE,Int.reduceLT,Int.reduceEq,Int.reduceToNat])
        simp at h
        simpa [L16_1, h] using h2
      · (try simp only [ex,reduceIte,reduceCtorEq,Nat.reduceEqDiff,Nat.reduceLT,Nat.reduceLeDiff,Nat.reduceAdd,Nat.reduceSub,Nat.reduceMul,Int.reduceAdd,Int.reduceSub,Int.reduceMul,Int.reduceNeg,Int.reduceLE,Int.reduceLT,Int.reduceEq,Int.reduceToNat]) <;> repeat ((with_reducible refine Req.intro ?_ ?_); (first | omega | (simp <;> omega)); try simp only [ex,reduceIte,reduceCtorEq,Nat.reduceEqDiff,Nat.reduceLT,Nat.reduceLeDiff,Nat.reduceAdd,Nat.reduceSub,Nat.reduceMul,Int.reduceAdd,Int.reduceSub,Int.reduceMul,Int.reduceNeg,Int.reduceLE,Int.reduceLT,Int.reduceEq,Int.reduceToNat])
        simp at h
        simpa [L16_1, h, List.count_cons] using h2
  exact key a.length 0 (by omega)
end Go.Proofs.Ytmmcepbcjlopdaa.E.Hs

/- The reference's runs: what the functions compute. Conditions: none. -/
namespace Go.Proofs.Ytmmcepbcjlopdaa.E.Hs
set_option linter.unusedVariables false
set_option linter.unusedSimpArgs false
set_option maxHeartbeats 20000000

theorem drop_get (a : List S) (i n : Nat) : (a.drop i)[n]? = a[i + n]? := by rw [List.getElem?_drop]

theorem run_spec (o o' : Bool) (a b : List S) (i k : Nat) (hi : i < a.length) (hk : k < b.length) (ha : a.length ≤ 17592186044416) (hb : b.length ≤ 17592186044416) :
    Run tab 29 0 [.sl o 1 (a.map .str), .sl o' 1 (b.map .str), .int .i64 i, .int .i64 k] [] 0 (fun r _ _ => r = (.agg [.int .i64 (runOf a b i k).A, .int .i64 (runOf a b i k).B, .int .i64 (runOf a b i k).N])) := by
  refine enter (F := f29) rfl rfl ?_
  simp only [f29, ex,reduceIte,reduceCtorEq,Nat.reduceEqDiff,Nat.reduceLT,Nat.reduceLeDiff,Nat.reduceAdd,Nat.reduceSub,Nat.reduceMul,Int.reduceAdd,Int.reduceSub,Int.reduceMul,Int.reduceNeg,Int.reduceLE,Int.reduceLT,Int.reduceEq,Int.reduceToNat]
  (try simp only [ex,reduceIte,reduceCtorEq,Nat.reduceEqDiff,Nat.reduceLT,Nat.reduceLeDiff,Nat.reduceAdd,Nat.reduceSub,Nat.reduceMul,Int.reduceAdd,Int.reduceSub,Int.reduceMul,Int.reduceNeg,Int.reduceLE,Int.reduceLT,Int.reduceEq,Int.reduceToNat]) <;> repeat ((with_reducible refine Req.intro ?_ ?_); (first | omega | (simp <;> omega)); try simp only [ex,reduceIte,reduceCtorEq,Nat.reduceEqDiff,Nat.reduceLT,Nat.reduceLeDiff,Nat.reduceAdd,Nat.reduceSub,Nat.reduceMul,Int.reduceAdd,Int.reduceSub,Int.reduceMul,Int.reduceNeg,Int.reduceLE,Int.reduceLT,Int.reduceEq,Int.reduceToNat])
  refine loopI fun L hL => ?_
  (try simp only [ex,reduceIte,reduceCtorEq,Nat.reduceEqDiff,Nat.reduceLT,Nat.reduceLeDiff,Nat.reduceAdd,Nat.reduceSub,Nat.reduceMul,Int.reduceAdd,Int.reduceSub,Int.reduceMul,Int.reduceNeg,Int.reduceLE,Int.reduceLT,Int.reduceEq,Int.reduceToNat]) <;> repeat ((with_reducible refine Req.intro ?_ ?_); (first | omega | (simp <;> omega)); try simp only [ex,reduceIte,reduceCtorEq,Nat.reduceEqDiff,Nat.reduceLT,Nat.reduceLeDiff,Nat.reduceAdd,Nat.reduceSub,Nat.reduceMul,Int.reduceAdd,Int.reduceSub,Int.reduceMul,Int.reduceNeg,Int.reduceLE,Int.reduceLT,Int.reduceEq,Int.reduceToNat])
  have fin : ∀ i' k' : Nat, i' ≤ i → k' ≤ k → back a b i k = (i', k') → (i' = 0 ∨ (0 < i' ∧ k' = 0) ∨ (0 < i' ∧ 0 < k' ∧ a[i' - 1]? ≠ b[k' - 1]?)) → L (L29_1 (.sl o 1 (a.map .str)) (.sl o' 1 (b.map .str)) (.int .i64 i') (.int .i64 k') (.ptr 0 3 0 0) 0 [.int .i64 0, .int .i64 0, .int .i64 0] [] 1) := by
    intro i' k' hi' hk' he hs
    apply hL
    simp only [L29_1, l29_1, ex,reduceIte,reduceCtorEq,Nat.reduceEqDiff,Nat.reduceLT,Nat.reduceLeDiff,Nat.reduceAdd,Nat.reduceSub,Nat.reduceMul,Int.reduceAdd,Int.reduceSub,Int.reduceMul,Int.reduceNeg,Int.reduceLE,Int.reduceLT,Int.reduceEq,Int.reduceToNat]
    apply shareL
    · intro share
      rcases hs with h | ⟨h, h'⟩ | ⟨h, h', h''⟩
      · have h1 : decide ((i' : Int) > 0) = false := by simp; omega
        (try simp only [h1, ex,reduceIte,reduceCtorEq,Nat.reduceEqDiff,Nat.reduceLT,Nat.reduceLeDiff,Nat.reduceAdd,Nat.reduceSub,Nat.reduceMul,Int.reduceAdd,Int.reduceSub,Int.reduceMul,Int.reduceNeg,Int.reduceLE,Int.reduceLT,Int.reduceEq,Int.reduceToNat]) <;> repeat ((with_reducible refine Req.intro ?_ ?_); (first | omega | (simp <;> omega)); try simp only [h1, ex,reduceIte,reduceCtorEq,Nat.reduceEqDiff,Nat.reduceLT,Nat.reduceLeDiff,Nat.reduceAdd,Nat.reduceSub,Nat.reduceMul,Int.reduceAdd,Int.reduceSub,Int.reduceMul,Int.reduceNeg,Int.reduceLE,Int.reduceLT,Int.reduceEq,Int.reduceToNat])
        exact share.out
      · have h1 : decide ((i' : Int) > 0) = true := by simp; omega
        have h2 : decide ((k' : Int) > 0) = false := by simp; omega
        (try simp only [h1, h2, ex,reduceIte,reduceCtorEq,Nat.reduceEqDiff,Nat.reduceLT,Nat.reduceLeDiff,Nat.reduceAdd,Nat.reduceSub,Nat.reduceMul,Int.reduceAdd,Int.reduceSub,Int.reduceMul,Int.reduceNeg,Int.reduceLE,Int.reduceLT,Int.reduceEq,Int.reduceToNat]) <;> repeat ((with_reducible refine Req.intro ?_ ?_); (first | omega | (simp <;> omega)); try simp only [h1, h2, ex,reduceIte,reduceCtorEq,Nat.reduceEqDiff,Nat.reduceLT,Nat.reduceLeDiff,Nat.reduceAdd,Nat.reduceSub,Nat.reduceMul,Int.reduceAdd,Int.reduceSub,Int.reduceMul,Int.reduceNeg,Int.reduceLE,Int.reduceLT,Int.reduceEq,Int.reduceToNat])
        exact share.out
      · have h1 : decide ((i' : Int) > 0) = true := by simp; omega
        have h2 : decide ((k' : Int) > 0) = true := by simp; omega
        have t1 : ((i' : Int) - 1).toNat = i' - 1 := by omega
        have t2 : ((k' : Int) - 1).toNat = k' - 1 := by omega
        have g1 : a[i' - 1]? = some (a[i' - 1]'(by omega)) := List.getElem?_eq_getElem _
        have g2 : b[k' - 1]? = some (b[k' - 1]'(by omega)) := List.getElem?_eq_getElem _
        have g3 : decide (a[i' - 1]'(by omega) = b[k' - 1]'(by omega)) = false := by
          rw [g1, g2] at h''
          simpa using h''
        (try simp only [h1, h2, t1, t2, g1, g2, g3, ex,reduceIte,reduceCtorEq,Nat.reduceEqDiff,Nat.reduceLT,Nat.reduceLeDiff,Nat.reduceAdd,Nat.reduceSub,Nat.reduceMul,Int.reduceAdd,Int.reduceSub,Int.reduceMul,Int.reduceNeg,Int.reduceLE,Int.reduceLT,Int.reduceEq,Int.reduceToNat]) <;> repeat ((with_reducible refine Req.intro ?_ ?_); (first | omega | (simp <;> omega)); try simp only [h1, h2, t1, t2, g1, g2, g3, ex,reduceIte,reduceCtorEq,Nat.reduceEqDiff,Nat.reduceLT,Nat.reduceLeDiff,Nat.reduceAdd,Nat.reduceSub,Nat.reduceMul,Int.reduceAdd,Int.reduceSub,Int.reduceMul,Int.reduceNeg,Int.reduceLE,Int.reduceLT,Int.reduceEq,Int.reduceToNat])
        exact share.out
    · refine loopI fun L2 hL2 => ?_
      (try simp only [ex,reduceIte,reduceCtorEq,Nat.reduceEqDiff,Nat.reduceLT,Nat.reduceLeDiff,Nat.reduceAdd,Nat.reduceSub,Nat.reduceMul,Int.reduceAdd,Int.reduceSub,Int.reduceMul,Int.reduceNeg,Int.reduceLE,Int.reduceLT,Int.reduceEq,Int.reduceToNat]) <;> repeat ((with_reducible refine Req.intro ?_ ?_); (first | omega | (simp <;> omega)); try simp only [ex,reduceIte,reduceCtorEq,Nat.reduceEqDiff,Nat.reduceLT,Nat.reduceLeDiff,Nat.reduceAdd,Nat.reduceSub,Nat.reduceMul,Int.reduceAdd,Int.reduceSub,Int.reduceMul,Int.reduceNeg,Int.reduceLE,Int.reduceLT,Int.reduceEq,Int.reduceToNat])
      have key2 : ∀ m n : Nat, n + m = lcp (a.drop i') (b.drop k') → L2 (L29_2 (.sl o 1 (a.map .str)) (.sl o' 1 (b.map .str)) (.int .i64 i') (.int .i64 k') (.ptr 0 3 0 0) (.int .i64 n) 0 [.int .i64 0, .int .i64 0, .int .i64 0] [] 1) := by
        have hle := lcp_le (a.drop i') (b.drop k')
        simp only [List.length_drop] at hle
        intro m
        induction m with
        | zero =>
          intro n hn
          apply hL2
          simp only [L29_2, l29_2, ex,reduceIte,reduceCtorEq,Nat.reduceEqDiff,Nat.reduceLT,Nat.reduceLeDiff,Nat.reduceAdd,Nat.reduceSub,Nat.reduceMul,Int.reduceAdd,Int.reduceSub,Int.reduceMul,Int.reduceNeg,Int.reduceLE,Int.reduceLT,Int.reduceEq,Int.reduceToNat]
          have hend : ∀ s t, a[i' + n]? = some s → b[k' + n]? = some t → s ≠ t := fun s t h1 h2 => by
            rw [← drop_get] at h1 h2
            rw [Nat.add_zero] at hn
            rw [hn] at h1 h2
            exact lcp_end _ _ s t h1 h2
          have hr : (runOf a b i k) = ⟨i', k', n⟩ := by
            unfold runOf; rw [he]; simp only [← hn]; rfl
          (try simp only [ex,reduceIte,reduceCtorEq,Nat.reduceEqDiff,Nat.reduceLT,Nat.reduceLeDiff,Nat.reduceAdd,Nat.reduceSub,Nat.reduceMul,Int.reduceAdd,Int.reduceSub,Int.reduceMul,Int.reduceNeg,Int.reduceLE,Int.reduceLT,Int.reduceEq,Int.reduceToNat]) <;> repeat ((with_reducible refine Req.intro ?_ ?_); (first | omega | (simp <;> omega)); try simp only [ex,reduceIte,reduceCtorEq,Nat.reduceEqDiff,Nat.reduceLT,Nat.reduceLeDiff,Nat.reduceAdd,Nat.reduceSub,Nat.reduceMul,Int.reduceAdd,Int.reduceSub,Int.reduceMul,Int.reduceNeg,Int.reduceLE,Int.reduceLT,Int.reduceEq,Int.reduceToNat])
          have v12 : (decide ((i' : Int) + (n : Int) < (a.length : Int)) = false) ∨ (decide ((i' : Int) + (n : Int) < (a.length : Int)) = true ∧ decide ((k' : Int) + (n : Int) < (b.length : Int)) = false) ∨ (decide ((i' : Int) + (n : Int) < (a.length : Int)) = true ∧ decide ((k' : Int) + (n : Int) < (b.length : Int)) = true ∧ ∃ x y, a[i' + n]? = some x ∧ b[k' + n]? = some y ∧ decide (x = y) = false) := by
            rcases Classical.em (i' + n < a.length) with c1 | c1
            · rcases Classical.em (k' + n < b.length) with c2 | c2
              · exact .inr (.inr ⟨by simp; omega, by simp; omega, _, _, List.getElem?_eq_getElem c1, List.getElem?_eq_getElem c2, by simpa using hend _ _ (List.getElem?_eq_getElem c1) (List.getElem?_eq_getElem c2)⟩)
              · exact .inr (.inl ⟨by simp; omega, by simp; omega⟩)
            · exact .inl (by simp; omega)
          apply shareL
          · intro share
            rcases v12 with v1 | ⟨v1, v2⟩ | ⟨v1, v2, x1, y1, u1, u2, u3⟩
            · (try simp only [v1, ex,reduceIte,reduceCtorEq,Nat.reduceEqDiff,Nat.reduceLT,Nat.reduceLeDiff,Nat.reduceAdd,Nat.reduceSub,Nat.reduceMul,Int.reduceAdd,Int.reduceSub,Int.reduceMul,Int.reduceNeg,Int.reduceLE,Int.reduceLT,Int.reduceEq,Int.reduceToNat]) <;> repeat ((with_reducible refine Req.intro ?_ ?_); (first | omega | (simp <;> omega)); try simp only [v1, ex,reduceIte,reduceCtorEq,Nat.reduceEqDiff,Nat.reduceLT,Nat.reduceLeDiff,Nat.reduceAdd,Nat.reduceSub,Nat.reduceMul,Int.reduceAdd,Int.reduceSub,Int.reduceMul,Int.reduceNeg,Int.reduceLE,Int.reduceLT,Int.reduceEq,Int.reduceToNat])
              exact share.out
            · (try simp only [v1, v2, ex,reduceIte,reduceCtorEq,Nat.reduceEqDiff,Nat.reduceLT,Nat.reduceLeDiff,Nat.reduceAdd,Nat.reduceSub,Nat.reduceMul,Int.reduceAdd,Int.reduceSub,Int.reduceMul,Int.reduceNeg,Int.reduceLE,Int.reduceLT,Int.reduceEq,Int.reduceToNat]) <;> repeat ((with_reducible refine Req.intro ?_ ?_); (first | omega | (simp <;> omega)); try simp only [v1, v2, ex,reduceIte,reduceCtorEq,Nat.reduceEqDiff,Nat.reduceLT,Nat.reduceLeDiff,Nat.reduceAdd,Nat.reduceSub,Nat.reduceMul,Int.reduceAdd,Int.reduceSub,Int.reduceMul,Int.reduceNeg,Int.reduceLE,Int.reduceLT,Int.reduceEq,Int.reduceToNat])
              exact share.out
            · (try simp only [v1, v2, u1, u2, u3, ex,reduceIte,reduceCtorEq,Nat.reduceEqDiff,Nat.reduceLT,Nat.reduceLeDiff,Nat.reduceAdd,Nat.reduceSub,Nat.reduceMul,Int.reduceAdd,Int.reduceSub,Int.reduceMul,Int.reduceNeg,Int.reduceLE,Int.reduceLT,Int.reduceEq,Int.reduceToNat]) <;> repeat ((with_reducible refine Req.intro ?_ ?_); (first | omega | (simp <;> omega)); try simp only [v1, v2, u1, u2, u3, ex,reduceIte,reduceCtorEq,Nat.reduceEqDiff,Nat.reduceLT,Nat.reduceLeDiff,Nat.reduceAdd,Nat.reduceSub,Nat.reduceMul,Int.reduceAdd,Int.reduceSub,Int.reduceMul,Int.reduceNeg,Int.reduceLE,Int.reduceLT,Int.reduceEq,Int.reduceToNat])
              exact share.out
          · rw [hr]
        | succ m ih =>
          intro n hn
          apply hL2
          simp only [L29_2, l29_2, ex,reduceIte,reduceCtorEq,Nat.reduceEqDiff,Nat.reduceLT,Nat.reduceLeDiff,Nat.reduceAdd,Nat.reduceSub,Nat.reduceMul,Int.reduceAdd,Int.reduceSub,Int.reduceMul,Int.reduceNeg,Int.reduceLE,Int.reduceLT,Int.reduceEq,Int.reduceToNat]
          obtain ⟨s, g1, g2⟩ := lcp_lt (a.drop i') (b.drop k') n (by omega)
          rw [drop_get] at g1 g2
          have c1 := (List.getElem?_eq_some_iff.1 g1).1
          have c2 := (List.getElem?_eq_some_iff.1 g2).1
          (try simp only [ex,reduceIte,reduceCtorEq,Nat.reduceEqDiff,Nat.reduceLT,Nat.reduceLeDiff,Nat.reduceAdd,Nat.reduceSub,Nat.reduceMul,Int.reduceAdd,Int.reduceSub,Int.reduceMul,Int.reduceNeg,Int.reduceLE,Int.reduceLT,Int.reduceEq,Int.reduceToNat]) <;> repeat ((with_reducible refine Req.intro ?_ ?_); (first | omega | (simp <;> omega)); try simp only [ex,reduceIte,reduceCtorEq,Nat.reduceEqDiff,Nat.reduceLT,Nat.reduceLeDiff,Nat.reduceAdd,Nat.reduceSub,Nat.reduceMul,Int.reduceAdd,Int.reduceSub,Int.reduceMul,Int.reduceNeg,Int.reduceLE,Int.reduceLT,Int.reduceEq,Int.reduceToNat])
          have h1 : decide ((i' : Int) + (n : Int) < (a.length : Int)) = true := by simp; omega
          have h2 : decide ((k' : Int) + (n : Int) < (b.length : Int)) = true := by simp; omega
          (try simp only [h1, h2, g1, g2, ex,reduceIte,reduceCtorEq,Nat.reduceEqDiff,Nat.reduceLT,Nat.reduceLeDiff,Nat.reduceAdd,Nat.reduceSub,Nat.reduceMul,Int.reduceAdd,Int.reduceSub,Int.reduceMul,Int.reduceNeg,Int.reduceLE,Int.reduceLT,Int.reduceEq,Int.reduceToNat]) <;> repeat ((with_reducible refine Req.intro ?_ ?_); (first | omega | (simp <;> omega)); try simp only [h1, h2, g1, g2, ex,reduceIte,reduceCtorEq,Nat.reduceEqDiff,Nat.reduceLT,Nat.reduceLeDiff,Nat.reduceAdd,Nat.reduceSub,Nat.reduceMul,Int.reduceAdd,Int.reduceSub,Int.reduceMul,Int.reduceNeg,Int.reduceLE,Int.reduceLT,Int.reduceEq,Int.reduceToNat])
          exact ih (n + 1) (by omega)
      exact key2 (lcp (a.drop i') (b.drop k')) 0 (Nat.zero_add _)
  have key : ∀ i' k' : Nat, i' ≤ i → k' ≤ k → back a b i' k' = back a b i k → L (L29_1 (.sl o 1 (a.map .str)) (.sl o' 1 (b.map .str)) (.int .i64 i') (.int .i64 k') (.ptr 0 3 0 0) 0 [.int .i64 0, .int .i64 0, .int .i64 0] [] 1) := by
    intro i'
    induction i' with
    | zero => intro k' h1 h2 he; exact fin 0 k' h1 h2 he.symm (.inl rfl)
    | succ i' ih =>
      intro k' h1 h2 he
      cases k' with
      | zero => exact fin _ 0 h1 h2 he.symm (.inr (.inl ⟨by omega, rfl⟩))
      | succ k' =>
        rcases Classical.em (a[i']? = b[k']?) with c | c
        · have he' := he
          simp only [back, if_pos c] at he
          apply hL
          simp only [L29_1, l29_1, ex,reduceIte,reduceCtorEq,Nat.reduceEqDiff,Nat.reduceLT,Nat.reduceLeDiff,Nat.reduceAdd,Nat.reduceSub,Nat.reduceMul,Int.reduceAdd,Int.reduceSub,Int.reduceMul,Int.reduceNeg,Int.reduceLE,Int.reduceLT,Int.reduceEq,Int.reduceToNat]
          have h1' : decide (((i' + 1 : Nat) : Int) > 0) = true := by simp <;> omega
          have h2' : decide (((k' + 1 : Nat) : Int) > 0) = true := by simp <;> omega
          have t1 : (((i' + 1 : Nat) : Int) - 1) = i' := by omega
          have t2 : (((k' + 1 : Nat) : Int) - 1) = k' := by omega
          have g1 : a[i']? = some (a[i']'(by omega)) := List.getElem?_eq_getElem _
          have g2 : b[k']? = some (b[k']'(by omega)) := List.getElem?_eq_getElem _
          have g3 : decide (a[i']'(by omega) = b[k']'(by omega)) = true := by
            rw [g1, g2] at c
            simpa using c
          (try simp only [h1', h2', t1, t2, g1, g2, g3, ex,reduceIte,reduceCtorEq,Nat.reduceEqDiff,Nat.reduceLT,Nat.reduceLeDiff,Nat.reduceAdd,Nat.reduceSub,Nat.reduceMul,Int.reduceAdd,Int.reduceSub,Int.reduceMul,Int.reduceNeg,Int.reduceLE,Int.reduceLT,Int.reduceEq,Int.reduceToNat]) <;> repeat ((with_reducible refine Req.intro ?_ ?_); (first | omega | (simp <;> omega)); try simp only [h1', h2', t1, t2, g1, g2, g3, ex,reduceIte,reduceCtorEq,Nat.reduceEqDiff,Nat.reduceLT,Nat.reduceLeDiff,Nat.reduceAdd,Nat.reduceSub,Nat.reduceMul,Int.reduceAdd,Int.reduceSub,Int.reduceMul,Int.reduceNeg,Int.reduceLE,Int.reduceLT,Int.reduceEq,Int.reduceToNat])
          exact ih k' (by omega) (by omega) he
        · refine fin _ _ h1 h2 ?_ (.inr (.inr ⟨by omega, by omega, by simpa using c⟩))
          simp only [back, if_neg c] at he
          exact he.symm
  exact key i k (Nat.le_refl _) (Nat.le_refl _) rfl
end Go.Proofs.Ytmmcepbcjlopdaa.E.Hs

/- How rare a run is, and which of two is taken: what the functions compute. Conditions: none. -/
namespace Go.Proofs.Ytmmcepbcjlopdaa.E.Hs
set_option linter.unusedVariables false
set_option linter.unusedSimpArgs false
set_option maxHeartbeats 20000000

theorem ifmin (a b : Nat) : (if (b : Int) < (a : Int) then (b : Int) else (a : Int)) = ((min a b : Nat) : Int) := by
  split <;> omega
theorem rare_le (m : Nat) (a : List S) (r : Rn) : rare m a r ≤ m := (fold_min_le a.count _ m).1

theorem rare_spec (o : Bool) (a : List S) (r : Rn) (hr : r.A + r.N ≤ a.length) (ha : a.length ≤ 17592186044416) : Run tab 30 0 [.sl o 1 (a.map .str), (.agg [.int .i64 (r).A, .int .i64 (r).B, .int .i64 (r).N])] [] 0 (fun x _ _ => x = .int .i64 (rare a.length a r : Nat)) := by
  refine enter (F := f30) rfl rfl ?_
  simp only [f30, ex,reduceIte,reduceCtorEq,Nat.reduceEqDiff,Nat.reduceLT,Nat.reduceLeDiff,Nat.reduceAdd,Nat.reduceSub,Nat.reduceMul,Int.reduceAdd,Int.reduceSub,Int.reduceMul,Int.reduceNeg,Int.reduceLE,Int.reduceLT,Int.reduceEq,Int.reduceToNat]
  (try simp only [ex,reduceIte,reduceCtorEq,Nat.reduceEqDiff,Nat.reduceLT,Nat.reduceLeDiff,Nat.reduceAdd,Nat.reduceSub,Nat.reduceMul,Int.reduceAdd,Int.reduceSub,Int.reduceMul,Int.reduceNeg,Int.reduceLE,Int.reduceLT,Int.reduceEq,Int.reduceToNat]) <;> repeat ((with_reducible refine Req.intro ?_ ?_); (first | omega | (simp <;> omega)); try simp only [ex,reduceIte,reduceCtorEq,Nat.reduceEqDiff,Nat.reduceLT,Nat.reduceLeDiff,Nat.reduceAdd,Nat.reduceSub,Nat.reduceMul,Int.reduceAdd,Int.reduceSub,Int.reduceMul,Int.reduceNeg,Int.reduceLE,Int.reduceLT,Int.reduceEq,Int.reduceToNat])
  refine loopI fun L hL => ?_
  (try simp only [ex,reduceIte,reduceCtorEq,Nat.reduceEqDiff,Nat.reduceLT,Nat.reduceLeDiff,Nat.reduceAdd,Nat.reduceSub,Nat.reduceMul,Int.reduceAdd,Int.reduceSub,Int.reduceMul,Int.reduceNeg,Int.reduceLE,Int.reduceLT,Int.reduceEq,Int.reduceToNat]) <;> repeat ((with_reducible refine Req.intro ?_ ?_); (first | omega | (simp <;> omega)); try simp only [ex,reduceIte,reduceCtorEq,Nat.reduceEqDiff,Nat.reduceLT,Nat.reduceLeDiff,Nat.reduceAdd,Nat.reduceSub,Nat.reduceMul,Int.reduceAdd,Int.reduceSub,Int.reduceMul,Int.reduceNeg,Int.reduceLE,Int.reduceLT,Int.reduceEq,Int.reduceToNat])
  have key : ∀ m i : Nat, i + m = r.N → L (L30_1 (.sl o 1 (a.map .str)) (.ptr 0 3 0 0) (.int .i64 ((((a.drop r.A).take i).foldl (fun m s => min m (a.count s)) a.length : Nat) : Int)) (.int .i64 i) 0 [.int .i64 r.A, .int .i64 r.B, .int .i64 r.N] [] 1) := by
    intro m
    induction m with
    | zero =>
      intro i hi
      apply hL
      simp only [L30_1, l30_1, ex,reduceIte,reduceCtorEq,Nat.reduceEqDiff,Nat.reduceLT,Nat.reduceLeDiff,Nat.reduceAdd,Nat.reduceSub,Nat.reduceMul,Int.reduceAdd,Int.reduceSub,Int.reduceMul,Int.reduceNeg,Int.reduceLE,Int.reduceLT,Int.reduceEq,Int.reduceToNat]
      have h1 : decide ((i : Int) < (r.N : Int)) = false := by simp; omega
      (try simp only [h1, ex,reduceIte,reduceCtorEq,Nat.reduceEqDiff,Nat.reduceLT,Nat.reduceLeDiff,Nat.reduceAdd,Nat.reduceSub,Nat.reduceMul,Int.reduceAdd,Int.reduceSub,Int.reduceMul,Int.reduceNeg,Int.reduceLE,Int.reduceLT,Int.reduceEq,Int.reduceToNat]) <;> repeat ((with_reducible refine Req.intro ?_ ?_); (first | omega | (simp <;> omega)); try simp only [h1, ex,reduceIte,reduceCtorEq,Nat.reduceEqDiff,Nat.reduceLT,Nat.reduceLeDiff,Nat.reduceAdd,Nat.reduceSub,Nat.reduceMul,Int.reduceAdd,Int.reduceSub,Int.reduceMul,Int.reduceNeg,Int.reduceLE,Int.reduceLT,Int.reduceEq,Int.reduceToNat])
      rw [show i = r.N by omega]
      rfl
    | succ m ih =>
      intro i hi
      apply hL
      simp only [L30_1, l30_1, ex,reduceIte,reduceCtorEq,Nat.reduceEqDiff,Nat.reduceLT,Nat.reduceLeDiff,Nat.reduceAdd,Nat.reduceSub,Nat.reduceMul,Int.reduceAdd,Int.reduceSub,Int.reduceMul,Int.reduceNeg,Int.reduceLE,Int.reduceLT,Int.reduceEq,Int.reduceToNat]
      have h1 : decide ((i : Int) < (r.N : Int)) = true := by simp; omega
      have g1 : a[r.A + i]? = some (a[r.A + i]'(by omega)) := List.getElem?_eq_getElem _
      generalize hx : a[r.A + i]'(by omega) = x at g1
      (try simp only [h1, g1, ex,reduceIte,reduceCtorEq,Nat.reduceEqDiff,Nat.reduceLT,Nat.reduceLeDiff,Nat.reduceAdd,Nat.reduceSub,Nat.reduceMul,Int.reduceAdd,Int.reduceSub,Int.reduceMul,Int.reduceNeg,Int.reduceLE,Int.reduceLT,Int.reduceEq,Int.reduceToNat]) <;> repeat ((with_reducible refine Req.intro ?_ ?_); (first | omega | (simp <;> omega)); try simp only [h1, g1, ex,reduceIte,reduceCtorEq,Nat.reduceEqDiff,Nat.reduceLT,Nat.reduceLeDiff,Nat.reduceAdd,Nat.reduceSub,Nat.reduceMul,Int.reduceAdd,Int.reduceSub,Int.reduceMul,Int.reduceNeg,Int.reduceLE,Int.reduceLT,Int.reduceEq,Int.reduceToNat])
      refine CallA.eq rfl (rcount_spec _ _ _ ha) rfl ?_
      have hf := (fold_min_le a.count ((a.drop r.A).take i) a.length).1
      (try simp only [ifmin, ex,reduceIte,reduceCtorEq,Nat.reduceEqDiff,Nat.reduceLT,Nat.reduceLeDiff,Nat.reduceAdd,Nat.reduceSub,Nat.reduceMul,Int.reduceAdd,Int.reduceSub,Int.reduceMul,Int.reduceNeg,Int.reduceLE,Int.reduceLT,Int.reduceEq,Int.reduceToNat]) <;> repeat ((with_reducible refine Req.intro ?_ ?_); (first | omega | (simp <;> omega)); try simp only [ifmin, ex,reduceIte,reduceCtorEq,Nat.reduceEqDiff,Nat.reduceLT,Nat.reduceLeDiff,Nat.reduceAdd,Nat.reduceSub,Nat.reduceMul,Int.reduceAdd,Int.reduceSub,Int.reduceMul,Int.reduceNeg,Int.reduceLE,Int.reduceLT,Int.reduceEq,Int.reduceToNat])
      have h2 := ih (i + 1) (by omega)
      rw [List.take_add_one, drop_get, g1] at h2
      simpa [L30_1, List.foldl_append] using h2
  exact key r.N 0 (Nat.zero_add _)

theorem better_spec (o : Bool) (a : List S) (x y : Rn) (hx : x.A + x.N ≤ a.length) (hy : y.A + y.N ≤ a.length) (ha : a.length ≤ 17592186044416) : Run tab 31 0 [.sl o 1 (a.map .str), (.agg [.int .i64 (x).A, .int .i64 (x).B, .int .i64 (x).N]), (.agg [.int .i64 (y).A, .int .i64 (y).B, .int .i64 (y).N])] [] 0 (fun z _ _ => z = .bool (bet a.length a x y)) := by
  refine enter (F := f31) rfl rfl ?_
  simp only [f31, ex,reduceIte,reduceCtorEq,Nat.reduceEqDiff,Nat.reduceLT,Nat.reduceLeDiff,Nat.reduceAdd,Nat.reduceSub,Nat.reduceMul,Int.reduceAdd,Int.reduceSub,Int.reduceMul,Int.reduceNeg,Int.reduceLE,Int.reduceLT,Int.reduceEq,Int.reduceToNat]
  (try simp only [ex,reduceIte,reduceCtorEq,Nat.reduceEqDiff,Nat.reduceLT,Nat.reduceLeDiff,Nat.reduceAdd,Nat.reduceSub,Nat.reduceMul,Int.reduceAdd,Int.reduceSub,Int.reduceMul,Int.reduceNeg,Int.reduceLE,Int.reduceLT,Int.reduceEq,Int.reduceToNat]) <;> repeat ((with_reducible refine Req.intro ?_ ?_); (first | omega | (simp <;> omega)); try simp only [ex,reduceIte,reduceCtorEq,Nat.reduceEqDiff,Nat.reduceLT,Nat.reduceLeDiff,Nat.reduceAdd,Nat.reduceSub,Nat.reduceMul,Int.reduceAdd,Int.reduceSub,Int.reduceMul,Int.reduceNeg,Int.reduceLE,Int.reduceLT,Int.reduceEq,Int.reduceToNat])
  refine CallD.eq rfl (rare_spec _ a x hx ha) rfl ?_
  (try simp only [ex,reduceIte,reduceCtorEq,Nat.reduceEqDiff,Nat.reduceLT,Nat.reduceLeDiff,Nat.reduceAdd,Nat.reduceSub,Nat.reduceMul,Int.reduceAdd,Int.reduceSub,Int.reduceMul,Int.reduceNeg,Int.reduceLE,Int.reduceLT,Int.reduceEq,Int.reduceToNat]) <;> repeat ((with_reducible refine Req.intro ?_ ?_); (first | omega | (simp <;> omega)); try simp only [ex,reduceIte,reduceCtorEq,Nat.reduceEqDiff,Nat.reduceLT,Nat.reduceLeDiff,Nat.reduceAdd,Nat.reduceSub,Nat.reduceMul,Int.reduceAdd,Int.reduceSub,Int.reduceMul,Int.reduceNeg,Int.reduceLE,Int.reduceLT,Int.reduceEq,Int.reduceToNat])
  refine CallD.eq rfl (rare_spec _ a y hy ha) rfl ?_
  (try simp only [ex,reduceIte,reduceCtorEq,Nat.reduceEqDiff,Nat.reduceLT,Nat.reduceLeDiff,Nat.reduceAdd,Nat.reduceSub,Nat.reduceMul,Int.reduceAdd,Int.reduceSub,Int.reduceMul,Int.reduceNeg,Int.reduceLE,Int.reduceLT,Int.reduceEq,Int.reduceToNat]) <;> repeat ((with_reducible refine Req.intro ?_ ?_); (first | omega | (simp <;> omega)); try simp only [ex,reduceIte,reduceCtorEq,Nat.reduceEqDiff,Nat.reduceLT,Nat.reduceLeDiff,Nat.reduceAdd,Nat.reduceSub,Nat.reduceMul,Int.reduceAdd,Int.reduceSub,Int.reduceMul,Int.reduceNeg,Int.reduceLE,Int.reduceLT,Int.reduceEq,Int.reduceToNat])
  unfold bet
  refine ifB.intro (fun h => ?_) (fun h => ?_)
  · replace h : rare a.length a x = rare a.length a y := by have := of_decide_eq_true h; omega
    (try simp only [ex,reduceIte,reduceCtorEq,Nat.reduceEqDiff,Nat.reduceLT,Nat.reduceLeDiff,Nat.reduceAdd,Nat.reduceSub,Nat.reduceMul,Int.reduceAdd,Int.reduceSub,Int.reduceMul,Int.reduceNeg,Int.reduceLE,Int.reduceLT,Int.reduceEq,Int.reduceToNat]) <;> repeat ((with_reducible refine Req.intro ?_ ?_); (first | omega | (simp <;> omega)); try simp only [ex,reduceIte,reduceCtorEq,Nat.reduceEqDiff,Nat.reduceLT,Nat.reduceLeDiff,Nat.reduceAdd,Nat.reduceSub,Nat.reduceMul,Int.reduceAdd,Int.reduceSub,Int.reduceMul,Int.reduceNeg,Int.reduceLE,Int.reduceLT,Int.reduceEq,Int.reduceToNat])
    refine ifB.intro (fun h' => ?_) (fun h' => ?_)
    · replace h' : x.N = y.N := by have := of_decide_eq_true h'; omega
      (try simp only [ex,reduceIte,reduceCtorEq,Nat.reduceEqDiff,Nat.reduceLT,Nat.reduceLeDiff,Nat.reduceAdd,Nat.reduceSub,Nat.reduceMul,Int.reduceAdd,Int.reduceSub,Int.reduceMul,Int.reduceNeg,Int.reduceLE,Int.reduceLT,Int.reduceEq,Int.reduceToNat]) <;> repeat ((with_reducible refine Req.intro ?_ ?_); (first | omega | (simp <;> omega)); try simp only [ex,reduceIte,reduceCtorEq,Nat.reduceEqDiff,Nat.reduceLT,Nat.reduceLeDiff,Nat.reduceAdd,Nat.reduceSub,Nat.reduceMul,Int.reduceAdd,Int.reduceSub,Int.reduceMul,Int.reduceNeg,Int.reduceLE,Int.reduceLT,Int.reduceEq,Int.reduceToNat])
      refine ifB.intro (fun h'' => ?_) (fun h'' => ?_)
      · replace h'' : x.A = y.A := by have := of_decide_eq_true h''; omega
        (try simp only [ex,reduceIte,reduceCtorEq,Nat.reduceEqDiff,Nat.reduceLT,Nat.reduceLeDiff,Nat.reduceAdd,Nat.reduceSub,Nat.reduceMul,Int.reduceAdd,Int.reduceSub,Int.reduceMul,Int.reduceNeg,Int.reduceLE,Int.reduceLT,Int.reduceEq,Int.reduceToNat]) <;> repeat ((with_reducible refine Req.intro ?_ ?_); (first | omega | (simp <;> omega)); try simp only [ex,reduceIte,reduceCtorEq,Nat.reduceEqDiff,Nat.reduceLT,Nat.reduceLeDiff,Nat.reduceAdd,Nat.reduceSub,Nat.reduceMul,Int.reduceAdd,Int.reduceSub,Int.reduceMul,Int.reduceNeg,Int.reduceLE,Int.reduceLT,Int.reduceEq,Int.reduceToNat])
        simp [h, h', h'']
      · (try simp only [ex,reduceIte,reduceCtorEq,Nat.reduceEqDiff,Nat.reduceLT,Nat.reduceLeDiff,Nat.reduceAdd,Nat.reduceSub,Nat.reduceMul,Int.reduceAdd,Int.reduceSub,Int.reduceMul,Int.reduceNeg,Int.reduceLE,Int.reduceLT,Int.reduceEq,Int.reduceToNat]) <;> repeat ((with_reducible refine Req.intro ?_ ?_); (first | omega | (simp <;> omega)); try simp only [ex,reduceIte,reduceCtorEq,Nat.reduceEqDiff,Nat.reduceLT,Nat.reduceLeDiff,Nat.reduceAdd,Nat.reduceSub,Nat.reduceMul,Int.reduceAdd,Int.reduceSub,Int.reduceMul,Int.reduceNeg,Int.reduceLE,Int.reduceLT,Int.reduceEq,Int.reduceToNat])
        replace h'' : ¬ x.A = y.A := by have := of_decide_eq_false h''; omega
        simp [h, h', h'']
    · (try simp only [ex,reduceIte,reduceCtorEq,Nat.reduceEqDiff,Nat.reduceLT,Nat.reduceLeDiff,Nat.reduceAdd,Nat.reduceSub,Nat.reduceMul,Int.reduceAdd,Int.reduceSub,Int.reduceMul,Int.reduceNeg,Int.reduceLE,Int.reduceLT,Int.reduceEq,Int.reduceToNat]) <;> repeat ((with_reducible refine Req.intro ?_ ?_); (first | omega | (simp <;> omega)); try simp only [ex,reduceIte,reduceCtorEq,Nat.reduceEqDiff,Nat.reduceLT,Nat.reduceLeDiff,Nat.reduceAdd,Nat.reduceSub,Nat.reduceMul,Int.reduceAdd,Int.reduceSub,Int.reduceMul,Int.reduceNeg,Int.reduceLE,Int.reduceLT,Int.reduceEq,Int.reduceToNat])
      replace h' : ¬ x.N = y.N := by have := of_decide_eq_false h'; omega
      simp [h, h']
  · (try simp only [ex,reduceIte,reduceCtorEq,Nat.reduceEqDiff,Nat.reduceLT,Nat.reduceLeDiff,Nat.reduceAdd,Nat.reduceSub,Nat.reduceMul,Int.reduceAdd,Int.reduceSub,Int.reduceMul,Int.reduceNeg,Int.reduceLE,Int.reduceLT,Int.reduceEq,Int.reduceToNat]) <;> repeat ((with_reducible refine Req.intro ?_ ?_); (first | omega | (simp <;> omega)); try simp only [ex,reduceIte,reduceCtorEq,Nat.reduceEqDiff,Nat.reduceLT,Nat.reduceLeDiff,Nat.reduceAdd,Nat.reduceSub,Nat.reduceMul,Int.reduceAdd,Int.reduceSub,Int.reduceMul,Int.reduceNeg,Int.reduceLE,Int.reduceLT,Int.reduceEq,Int.reduceToNat])
    replace h : ¬ rare a.length a x = rare a.length a y := by have := of_decide_eq_false h; omega
    simp [h]
end Go.Proofs.Ytmmcepbcjlopdaa.E.Hs

/- The reference's anchor: what it computes. Conditions: none. -/
namespace Go.Proofs.Ytmmcepbcjlopdaa.E.Hs
set_option linter.unusedVariables false
set_option linter.unusedSimpArgs false
set_option maxHeartbeats 20000000

/-- One pair of places: the run through it may be the better one. -/
def rtake (a : List S) (x : Rn) (o : Option Rn) : Bool := decide (rare a.length a x ≤ 64) && (match o with | none => true | some r => bet a.length a x r)
def rstep (a b : List S) (i k : Nat) (o : Option Rn) : Option Rn :=
  if a[i]? = b[k]? then (if rtake a (runOf a b i k) o = true then some (runOf a b i k) else o) else o
def rIn (a b : List S) (i : Nat) : Nat → Nat → Option Rn → Option Rn
  | 0, _, o => o
  | m + 1, k, o => rIn a b i m (k + 1) (rstep a b i k o)
def rOut (a b : List S) : Nat → Nat → Option Rn → Option Rn
  | 0, _, o => o
  | m + 1, i, o => rOut a b m (i + 1) (rIn a b i b.length 0 o)
def bestR (o : Option Rn) : Rn := o.getD ⟨0, 0, 0⟩
def Fits (a b : List S) (o : Option Rn) : Prop := ∀ r, o = some r → r.A + r.N ≤ a.length ∧ r.B + r.N ≤ b.length

theorem runOf_fits (a b : List S) (i k : Nat) (hi : i < a.length) (hk : k < b.length) : (runOf a b i k).A + (runOf a b i k).N ≤ a.length ∧ (runOf a b i k).B + (runOf a b i k).N ≤ b.length := by
  have h := back_le a b i k
  have h2 := lcp_le (a.drop (back a b i k).1) (b.drop (back a b i k).2)
  simp only [List.length_drop] at h2
  simp only [runOf]
  omega
theorem rstep_fits {a b : List S} {i k : Nat} {o : Option Rn} (hi : i < a.length) (hk : k < b.length) (h : Fits a b o) : Fits a b (rstep a b i k o) := by
  unfold rstep
  split
  · rcases Classical.em (rtake a (runOf a b i k) o = true) with c | c
    · rw [if_pos c]; intro r hr; injection hr with hr; subst hr; exact runOf_fits a b i k hi hk
    · rw [if_neg c]; exact h
  · exact h
theorem rIn_fits {a b : List S} {i : Nat} (hi : i < a.length) : ∀ (m k : Nat) (o : Option Rn), k + m = b.length → Fits a b o → Fits a b (rIn a b i m k o)
  | 0, _, _, _, h => h
  | m + 1, k, o, hk, h => rIn_fits hi m (k + 1) _ (by omega) (rstep_fits hi (by omega) h)

theorem ranchor_spec (o o' : Bool) (a b : List S) (ha : a.length ≤ 17592186044416) (hb : b.length ≤ 17592186044416) :
    Run tab 14 0 [.sl o 1 (a.map .str), .sl o' 1 (b.map .str)] [] 0 (fun r _ _ => r = .tup [(.agg [.int .i64 (bestR (rOut a b a.length 0 none)).A, .int .i64 (bestR (rOut a b a.length 0 none)).B, .int .i64 (bestR (rOut a b a.length 0 none)).N]), .bool (rOut a b a.length 0 none).isSome]) := by
  refine enter (F := f14) rfl rfl ?_
  simp only [f14, ex,reduceIte,reduceCtorEq,Nat.reduceEqDiff,Nat.reduceLT,Nat.reduceLeDiff,Nat.reduceAdd,Nat.reduceSub,Nat.reduceMul,Int.reduceAdd,Int.reduceSub,Int.reduceMul,Int.reduceNeg,Int.reduceLE,Int.reduceLT,Int.reduceEq,Int.reduceToNat]
  (try simp only [ex,reduceIte,reduceCtorEq,Nat.reduceEqDiff,Nat.reduceLT,Nat.reduceLeDiff,Nat.reduceAdd,Nat.reduceSub,Nat.reduceMul,Int.reduceAdd,Int.reduceSub,Int.reduceMul,Int.reduceNeg,Int.reduceLE,Int.reduceLT,Int.reduceEq,Int.reduceToNat]) <;> repeat ((with_reducible refine Req.intro ?_ ?_); (first | omega | (simp <;> omega)); try simp only [ex,reduceIte,reduceCtorEq,Nat.reduceEqDiff,Nat.reduceLT,Nat.reduceLeDiff,Nat.reduceAdd,Nat.reduceSub,Nat.reduceMul,Int.reduceAdd,Int.reduceSub,Int.reduceMul,Int.reduceNeg,Int.reduceLE,Int.reduceLT,Int.reduceEq,Int.reduceToNat])
  refine loopI fun L hL => ?_
  (try simp only [ex,reduceIte,reduceCtorEq,Nat.reduceEqDiff,Nat.reduceLT,Nat.reduceLeDiff,Nat.reduceAdd,Nat.reduceSub,Nat.reduceMul,Int.reduceAdd,Int.reduceSub,Int.reduceMul,Int.reduceNeg,Int.reduceLE,Int.reduceLT,Int.reduceEq,Int.reduceToNat]) <;> repeat ((with_reducible refine Req.intro ?_ ?_); (first | omega | (simp <;> omega)); try simp only [ex,reduceIte,reduceCtorEq,Nat.reduceEqDiff,Nat.reduceLT,Nat.reduceLeDiff,Nat.reduceAdd,Nat.reduceSub,Nat.reduceMul,Int.reduceAdd,Int.reduceSub,Int.reduceMul,Int.reduceNeg,Int.reduceLE,Int.reduceLT,Int.reduceEq,Int.reduceToNat])
  have key : ∀ (m i n : Nat) (w : Option Rn), i + m = a.length → Fits a b w → rOut a b m i w = rOut a b a.length 0 none → L (L14_2 (.sl o 1 (a.map .str)) (.sl o' 1 (b.map .str)) (.ptr 0 3 0 0) (.ptr 1 3 0 0) (.bool w.isSome) (.int .i64 i) 0 [.int .i64 0, .int .i64 0, .int .i64 0] 1 [.int .i64 (bestR w).A, .int .i64 (bestR w).B, .int .i64 (bestR w).N] [] n) := by
    intro m
    induction m with
    | zero =>
      intro i n w hi hw he
      apply hL
      simp only [L14_2, l14_2, ex,reduceIte,reduceCtorEq,Nat.reduceEqDiff,Nat.reduceLT,Nat.reduceLeDiff,Nat.reduceAdd,Nat.reduceSub,Nat.reduceMul,Int.reduceAdd,Int.reduceSub,Int.reduceMul,Int.reduceNeg,Int.reduceLE,Int.reduceLT,Int.reduceEq,Int.reduceToNat]
      have h1 : decide ((i : Int) < (a.length : Int)) = false := by simp; omega
      rw [← he]
      (try simp only [h1, ex,reduceIte,reduceCtorEq,Nat.reduceEqDiff,Nat.reduceLT,Nat.reduceLeDiff,Nat.reduceAdd,Nat.reduceSub,Nat.reduceMul,Int.reduceAdd,Int.reduceSub,Int.reduceMul,Int.reduceNeg,Int.reduceLE,Int.reduceLT,Int.reduceEq,Int.reduceToNat]) <;> repeat ((with_reducible refine Req.intro ?_ ?_); (first | omega | (simp <;> omega)); try simp only [h1, ex,reduceIte,reduceCtorEq,Nat.reduceEqDiff,Nat.reduceLT,Nat.reduceLeDiff,Nat.reduceAdd,Nat.reduceSub,Nat.reduceMul,Int.reduceAdd,Int.reduceSub,Int.reduceMul,Int.reduceNeg,Int.reduceLE,Int.reduceLT,Int.reduceEq,Int.reduceToNat])
      rfl
    | succ m ih =>
      intro i n w hi hw he
      apply hL
      simp only [L14_2, l14_2, ex,reduceIte,reduceCtorEq,Nat.reduceEqDiff,Nat.reduceLT,Nat.reduceLeDiff,Nat.reduceAdd,Nat.reduceSub,Nat.reduceMul,Int.reduceAdd,Int.reduceSub,Int.reduceMul,Int.reduceNeg,Int.reduceLE,Int.reduceLT,Int.reduceEq,Int.reduceToNat]
      have h1 : decide ((i : Int) < (a.length : Int)) = true := by simp; omega
      (try simp only [h1, ex,reduceIte,reduceCtorEq,Nat.reduceEqDiff,Nat.reduceLT,Nat.reduceLeDiff,Nat.reduceAdd,Nat.reduceSub,Nat.reduceMul,Int.reduceAdd,Int.reduceSub,Int.reduceMul,Int.reduceNeg,Int.reduceLE,Int.reduceLT,Int.reduceEq,Int.reduceToNat]) <;> repeat ((with_reducible refine Req.intro ?_ ?_); (first | omega | (simp <;> omega)); try simp only [h1, ex,reduceIte,reduceCtorEq,Nat.reduceEqDiff,Nat.reduceLT,Nat.reduceLeDiff,Nat.reduceAdd,Nat.reduceSub,Nat.reduceMul,Int.reduceAdd,Int.reduceSub,Int.reduceMul,Int.reduceNeg,Int.reduceLE,Int.reduceLT,Int.reduceEq,Int.reduceToNat])
      refine loopI fun L2 hL2 => ?_
      (try simp only [ex,reduceIte,reduceCtorEq,Nat.reduceEqDiff,Nat.reduceLT,Nat.reduceLeDiff,Nat.reduceAdd,Nat.reduceSub,Nat.reduceMul,Int.reduceAdd,Int.reduceSub,Int.reduceMul,Int.reduceNeg,Int.reduceLE,Int.reduceLT,Int.reduceEq,Int.reduceToNat]) <;> repeat ((with_reducible refine Req.intro ?_ ?_); (first | omega | (simp <;> omega)); try simp only [ex,reduceIte,reduceCtorEq,Nat.reduceEqDiff,Nat.reduceLT,Nat.reduceLeDiff,Nat.reduceAdd,Nat.reduceSub,Nat.reduceMul,Int.reduceAdd,Int.reduceSub,Int.reduceMul,Int.reduceNeg,Int.reduceLE,Int.reduceLT,Int.reduceEq,Int.reduceToNat])
      have key2 : ∀ (m2 k n : Nat) (w : Option Rn), k + m2 = b.length → Fits a b w → rOut a b m (i + 1) (rIn a b i m2 k w) = rOut a b a.length 0 none → L2 (L14_1 (.sl o 1 (a.map .str)) (.sl o' 1 (b.map .str)) (.ptr 0 3 0 0) (.ptr 1 3 0 0) (.bool w.isSome) (.int .i64 i) (.int .i64 k) 0 [.int .i64 0, .int .i64 0, .int .i64 0] 1 [.int .i64 (bestR w).A, .int .i64 (bestR w).B, .int .i64 (bestR w).N] [] n) := by
        intro m2
        induction m2 with
        | zero =>
          intro k n w hk hw he
          apply hL2
          simp only [L14_1, l14_1, ex,reduceIte,reduceCtorEq,Nat.reduceEqDiff,Nat.reduceLT,Nat.reduceLeDiff,Nat.reduceAdd,Nat.reduceSub,Nat.reduceMul,Int.reduceAdd,Int.reduceSub,Int.reduceMul,Int.reduceNeg,Int.reduceLE,Int.reduceLT,Int.reduceEq,Int.reduceToNat]
          have h2 : decide ((k : Int) < (b.length : Int)) = false := by simp; omega
          (try simp only [h2, ex,reduceIte,reduceCtorEq,Nat.reduceEqDiff,Nat.reduceLT,Nat.reduceLeDiff,Nat.reduceAdd,Nat.reduceSub,Nat.reduceMul,Int.reduceAdd,Int.reduceSub,Int.reduceMul,Int.reduceNeg,Int.reduceLE,Int.reduceLT,Int.reduceEq,Int.reduceToNat]) <;> repeat ((with_reducible refine Req.intro ?_ ?_); (first | omega | (simp <;> omega)); try simp only [h2, ex,reduceIte,reduceCtorEq,Nat.reduceEqDiff,Nat.reduceLT,Nat.reduceLeDiff,Nat.reduceAdd,Nat.reduceSub,Nat.reduceMul,Int.reduceAdd,Int.reduceSub,Int.reduceMul,Int.reduceNeg,Int.reduceLE,Int.reduceLT,Int.reduceEq,Int.reduceToNat])
          exact ih (i + 1) n w (by omega) hw he
        | succ m2 ih2 =>
          intro k n w hk hw he
          apply hL2
          simp only [L14_1, l14_1, ex,reduceIte,reduceCtorEq,Nat.reduceEqDiff,Nat.reduceLT,Nat.reduceLeDiff,Nat.reduceAdd,Nat.reduceSub,Nat.reduceMul,Int.reduceAdd,Int.reduceSub,Int.reduceMul,Int.reduceNeg,Int.reduceLE,Int.reduceLT,Int.reduceEq,Int.reduceToNat]
          have h2 : decide ((k : Int) < (b.length : Int)) = true := by simp; omega
          have g1 : a[i]? = some (a[i]'(by omega)) := List.getElem?_eq_getElem _
          have g2 : b[k]? = some (b[k]'(by omega)) := List.getElem?_eq_getElem _
          simp only [rIn] at he
          have hw' := rstep_fits (i := i) (k := k) (by omega) (by omega) hw
          rcases Classical.em (a[i]'(by omega) = b[k]'(by omega)) with c | c
          · have g3 : decide (a[i]'(by omega) = b[k]'(by omega)) = true := by simpa using c
            have hst : rstep a b i k w = if rtake a (runOf a b i k) w = true then some (runOf a b i k) else w := by
              unfold rstep; rw [if_pos (by rw [g1, g2, c])]
            have hf := runOf_fits a b i k (by omega) (by omega)
            (try simp only [h2, g1, g2, g3, ex,reduceIte,reduceCtorEq,Nat.reduceEqDiff,Nat.reduceLT,Nat.reduceLeDiff,Nat.reduceAdd,Nat.reduceSub,Nat.reduceMul,Int.reduceAdd,Int.reduceSub,Int.reduceMul,Int.reduceNeg,Int.reduceLE,Int.reduceLT,Int.reduceEq,Int.reduceToNat]) <;> repeat ((with_reducible refine Req.intro ?_ ?_); (first | omega | (simp <;> omega)); try simp only [h2, g1, g2, g3, ex,reduceIte,reduceCtorEq,Nat.reduceEqDiff,Nat.reduceLT,Nat.reduceLeDiff,Nat.reduceAdd,Nat.reduceSub,Nat.reduceMul,Int.reduceAdd,Int.reduceSub,Int.reduceMul,Int.reduceNeg,Int.reduceLE,Int.reduceLT,Int.reduceEq,Int.reduceToNat])
            refine CallA.eq rfl (run_spec _ _ a b i k (by omega) (by omega) ha hb) rfl ?_
            (try simp only [ex,reduceIte,reduceCtorEq,Nat.reduceEqDiff,Nat.reduceLT,Nat.reduceLeDiff,Nat.reduceAdd,Nat.reduceSub,Nat.reduceMul,Int.reduceAdd,Int.reduceSub,Int.reduceMul,Int.reduceNeg,Int.reduceLE,Int.reduceLT,Int.reduceEq,Int.reduceToNat]) <;> repeat ((with_reducible refine Req.intro ?_ ?_); (first | omega | (simp <;> omega)); try simp only [ex,reduceIte,reduceCtorEq,Nat.reduceEqDiff,Nat.reduceLT,Nat.reduceLeDiff,Nat.reduceAdd,Nat.reduceSub,Nat.reduceMul,Int.reduceAdd,Int.reduceSub,Int.reduceMul,Int.reduceNeg,Int.reduceLE,Int.reduceLT,Int.reduceEq,Int.reduceToNat])
            refine CallA.eq rfl (rare_spec _ a _ hf.1 ha) rfl ?_
            rcases Classical.em (rare a.length a (runOf a b i k) ≤ 64) with c1 | c1
            · have h3 : decide (((rare a.length a (runOf a b i k) : Nat) : Int) ≤ 64) = true := by simp; omega
              cases w with
              | none =>
                (try simp only [h3, Option.isSome_none, ex,reduceIte,reduceCtorEq,Nat.reduceEqDiff,Nat.reduceLT,Nat.reduceLeDiff,Nat.reduceAdd,Nat.reduceSub,Nat.reduceMul,Int.reduceAdd,Int.reduceSub,Int.reduceMul,Int.reduceNeg,Int.reduceLE,Int.reduceLT,Int.reduceEq,Int.reduceToNat]) <;> repeat ((with_reducible refine Req.intro ?_ ?_); (first | omega | (simp <;> omega)); try simp only [h3, Option.isSome_none, ex,reduceIte,reduceCtorEq,Nat.reduceEqDiff,Nat.reduceLT,Nat.reduceLeDiff,Nat.reduceAdd,Nat.reduceSub,Nat.reduceMul,Int.reduceAdd,Int.reduceSub,Int.reduceMul,Int.reduceNeg,Int.reduceLE,Int.reduceLT,Int.reduceEq,Int.reduceToNat])
                have : rtake a (runOf a b i k) none = true := by simp [rtake, c1]
                rw [if_pos this] at hst
                rw [hst] at he hw'
                exact ih2 (k + 1) (n + 1) _ (by omega) hw' he
              | some r =>
                (try simp only [h3, Option.isSome_some, ex,reduceIte,reduceCtorEq,Nat.reduceEqDiff,Nat.reduceLT,Nat.reduceLeDiff,Nat.reduceAdd,Nat.reduceSub,Nat.reduceMul,Int.reduceAdd,Int.reduceSub,Int.reduceMul,Int.reduceNeg,Int.reduceLE,Int.reduceLT,Int.reduceEq,Int.reduceToNat]) <;> repeat ((with_reducible refine Req.intro ?_ ?_); (first | omega | (simp <;> omega)); try simp only [h3, Option.isSome_some, ex,reduceIte,reduceCtorEq,Nat.reduceEqDiff,Nat.reduceLT,Nat.reduceLeDiff,Nat.reduceAdd,Nat.reduceSub,Nat.reduceMul,Int.reduceAdd,Int.reduceSub,Int.reduceMul,Int.reduceNeg,Int.reduceLE,Int.reduceLT,Int.reduceEq,Int.reduceToNat])
                refine CallA.eq rfl (better_spec _ a (runOf a b i k) r hf.1 (hw r rfl).1 ha) rfl ?_
                have ht : rtake a (runOf a b i k) (some r) = bet a.length a (runOf a b i k) r := by simp [rtake, c1]
                rw [ht] at hst
                (try simp only [h3, ex,reduceIte,reduceCtorEq,Nat.reduceEqDiff,Nat.reduceLT,Nat.reduceLeDiff,Nat.reduceAdd,Nat.reduceSub,Nat.reduceMul,Int.reduceAdd,Int.reduceSub,Int.reduceMul,Int.reduceNeg,Int.reduceLE,Int.reduceLT,Int.reduceEq,Int.reduceToNat]) <;> repeat ((with_reducible refine Req.intro ?_ ?_); (first | omega | (simp <;> omega)); try simp only [h3, ex,reduceIte,reduceCtorEq,Nat.reduceEqDiff,Nat.reduceLT,Nat.reduceLeDiff,Nat.reduceAdd,Nat.reduceSub,Nat.reduceMul,Int.reduceAdd,Int.reduceSub,Int.reduceMul,Int.reduceNeg,Int.reduceLE,Int.reduceLT,Int.reduceEq,Int.reduceToNat])
                refine ifB.intro (fun h => ?_) (fun h => ?_)
                · (try simp only [ex,reduceIte,reduceCtorEq,Nat.reduceEqDiff,Nat.reduceLT,Nat.reduceLeDiff,Nat.reduceAdd,Nat.reduceSub,Nat.reduceMul,Int.reduceAdd,Int.reduceSub,Int.reduceMul,Int.reduceNeg,Int.reduceLE,Int.reduceLT,Int.reduceEq,Int.reduceToNat]) <;> repeat ((with_reducible refine Req.intro ?_ ?_); (first | omega | (simp <;> omega)); try simp only [ex,reduceIte,reduceCtorEq,Nat.reduceEqDiff,Nat.reduceLT,Nat.reduceLeDiff,Nat.reduceAdd,Nat.reduceSub,Nat.reduceMul,Int.reduceAdd,Int.reduceSub,Int.reduceMul,Int.reduceNeg,Int.reduceLE,Int.reduceLT,Int.reduceEq,Int.reduceToNat])
                  rw [if_pos h] at hst
                  rw [hst] at he hw'
                  exact ih2 (k + 1) (n + 1) _ (by omega) hw' he
                · (try simp only [ex,reduceIte,reduceCtorEq,Nat.reduceEqDiff,Nat.reduceLT,Nat.reduceLeDiff,Nat.reduceAdd,Nat.reduceSub,Nat.reduceMul,Int.reduceAdd,Int.reduceSub,Int.reduceMul,Int.reduceNeg,Int.reduceLE,Int.reduceLT,Int.reduceEq,Int.reduceToNat]) <;> repeat ((with_reducible refine Req.intro ?_ ?_); (first | omega | (simp <;> omega)); try simp only [ex,reduceIte,reduceCtorEq,Nat.reduceEqDiff,Nat.reduceLT,Nat.reduceLeDiff,Nat.reduceAdd,Nat.reduceSub,Nat.reduceMul,Int.reduceAdd,Int.reduceSub,Int.reduceMul,Int.reduceNeg,Int.reduceLE,Int.reduceLT,Int.reduceEq,Int.reduceToNat])
                  rw [if_neg (by rw [h]; decide)] at hst
                  rw [hst] at he hw'
                  exact ih2 (k + 1) (n + 1) _ (by omega) hw' he
            · have h3 : decide (((rare a.length a (runOf a b i k) : Nat) : Int) ≤ 64) = false := by simp; omega
              have : rtake a (runOf a b i k) w = false := by simp [rtake, c1]
              rw [if_neg (by rw [this]; decide)] at hst
              rw [hst] at he hw'
              (try simp only [h3, ex,reduceIte,reduceCtorEq,Nat.reduceEqDiff,Nat.reduceLT,Nat.reduceLeDiff,Nat.reduceAdd,Nat.reduceSub,Nat.reduceMul,Int.reduceAdd,Int.reduceSub,Int.reduceMul,Int.reduceNeg,Int.reduceLE,Int.reduceLT,Int.reduceEq,Int.reduceToNat]) <;> repeat ((with_reducible refine Req.intro ?_ ?_); (first | omega | (simp <;> omega)); try simp only [h3, ex,reduceIte,reduceCtorEq,Nat.reduceEqDiff,Nat.reduceLT,Nat.reduceLeDiff,Nat.reduceAdd,Nat.reduceSub,Nat.reduceMul,Int.reduceAdd,Int.reduceSub,Int.reduceMul,Int.reduceNeg,Int.reduceLE,Int.reduceLT,Int.reduceEq,Int.reduceToNat])
              exact ih2 (k + 1) (n + 1) _ (by omega) hw' he
          · have g3 : decide (a[i]'(by omega) = b[k]'(by omega)) = false := by simpa using c
            have hst : rstep a b i k w = w := by
              unfold rstep; rw [if_neg (by rw [g1, g2]; simpa using c)]
            rw [hst] at he hw'
            (try simp only [h2, g1, g2, g3, ex,reduceIte,reduceCtorEq,Nat.reduceEqDiff,Nat.reduceLT,Nat.reduceLeDiff,Nat.reduceAdd,Nat.reduceSub,Nat.reduceMul,Int.reduceAdd,Int.reduceSub,Int.reduceMul,Int.reduceNeg,Int.reduceLE,Int.reduceLT,Int.reduceEq,Int.reduceToNat]) <;> repeat ((with_reducible refine Req.intro ?_ ?_); (first | omega | (simp <;> omega)); try simp only [h2, g1, g2, g3, ex,reduceIte,reduceCtorEq,Nat.reduceEqDiff,Nat.reduceLT,Nat.reduceLeDiff,Nat.reduceAdd,Nat.reduceSub,Nat.reduceMul,Int.reduceAdd,Int.reduceSub,Int.reduceMul,Int.reduceNeg,Int.reduceLE,Int.reduceLT,Int.reduceEq,Int.reduceToNat])
            exact ih2 (k + 1) n w (by omega) hw he
      exact key2 b.length 0 n w (Nat.zero_add _) hw he
  exact key a.length 0 2 none (Nat.zero_add _) (fun r h => by cases h) rfl
end Go.Proofs.Ytmmcepbcjlopdaa.E.Hs

/- The anchor, of both: it is the one that no other run beats. Plain lists. Conditions: none. -/
namespace Go.Proofs.Ytmmcepbcjlopdaa.E.Hs
set_option linter.unusedVariables false

theorem bet_iff (m : Nat) (a : List S) (x y : Rn) : bet m a x y = true ↔ rare m a x < rare m a y ∨ (rare m a x = rare m a y ∧ (y.N < x.N ∨ (x.N = y.N ∧ (x.A < y.A ∨ (x.A = y.A ∧ x.B < y.B))))) := by
  unfold bet
  generalize rare m a x = p
  generalize rare m a y = q
  by_cases h1 : p = q
  · rw [if_neg (by simpa using h1)]
    by_cases h2 : x.N = y.N
    · rw [if_neg (by simpa using h2)]
      by_cases h3 : x.A = y.A
      · rw [if_neg (by simpa using h3)]; simp; omega
      · rw [if_pos h3]; simp; omega
    · rw [if_pos h2]; simp; omega
  · rw [if_pos h1]; simp; omega
theorem Rn.eq {x y : Rn} (h1 : x.A = y.A) (h2 : x.B = y.B) (h3 : x.N = y.N) : x = y := by
  cases x; cases y; simp_all
theorem bet_total (m : Nat) (a : List S) (x y : Rn) (h : bet m a x y = false) : x = y ∨ bet m a y x = true := by
  by_cases c : x = y
  · exact .inl c
  · right
    rw [bet_iff]
    have h1 : ¬ bet m a x y = true := by rw [h]; simp
    rw [bet_iff] at h1
    have : ¬ (x.A = y.A ∧ x.B = y.B ∧ x.N = y.N) := fun e => c (Rn.eq e.1 e.2.1 e.2.2)
    omega
theorem bet_trans (m : Nat) (a : List S) (x y z : Rn) (h1 : bet m a x y = true) (h2 : bet m a y z = true) : bet m a x z = true := by
  rw [bet_iff] at *
  omega

theorem runOf_start {a b : List S} {i k : Nat} (h : ∃ s, a[i]? = some s ∧ b[k]? = some s) : Start a b (runOf a b i k).A (runOf a b i k).B ∧ (runOf a b i k).N = lcp (a.drop (runOf a b i k).A) (b.drop (runOf a b i k).B) ∧ 0 < (runOf a b i k).N :=
  ⟨back_start a b i k h, rfl, lcp_pos (back_start a b i k h).1⟩
theorem runOf_self {a b : List S} {r : Rn} (h1 : Start a b r.A r.B) (h2 : r.N = lcp (a.drop r.A) (b.drop r.B)) : runOf a b r.A r.B = r := by
  unfold runOf
  rw [back_of_start a b _ _ h1]
  exact Rn.eq rfl rfl h2.symm
theorem cand_fits {a b : List S} {r : Rn} (h : Cand a b r) : 0 < r.N ∧ r.A + r.N ≤ a.length ∧ r.B + r.N ≤ b.length := by
  obtain ⟨h1, h2, _⟩ := h
  have h3 := lcp_pos h1.1
  have h4 := lcp_le (a.drop r.A) (b.drop r.B)
  simp only [List.length_drop] at h4
  omega
theorem rare_cand {a b : List S} {r : Rn} (h : Cand a b r) : rare a.length a r = rare 65 a r := by
  obtain ⟨f1, f2, _⟩ := cand_fits h
  have := rare_len a r f1 f2
  have := h.2.2
  omega
theorem bet_cand {a b : List S} {x y : Rn} (hx : Cand a b x) (hy : Cand a b y) : bet a.length a x y = bet 65 a x y := by
  unfold bet; rw [rare_cand hx, rare_cand hy]

/-- What was seen so far: the pairs before (i, k). -/
def Seen (i k i' k' : Nat) : Prop := i' < i ∨ (i' = i ∧ k' < k)
structure RInv (a b : List S) (i k : Nat) (o : Option Rn) : Prop where
  cand : ∀ r, o = some r → Cand a b r
  best : ∀ y, Cand a b y → Seen i k y.A y.B → ∃ r, o = some r ∧ (y = r ∨ bet 65 a r y = true)
theorem rstep_inv {a b : List S} {i k : Nat} {o : Option Rn} (hi : i < a.length) (hk : k < b.length) (h : RInv a b i k o) : RInv a b i (k + 1) (rstep a b i k o) := by
  by_cases hab : a[i]? = b[k]?
  · have hs : ∃ s, a[i]? = some s ∧ b[k]? = some s := ⟨a[i], List.getElem?_eq_getElem hi, by rw [← hab]; exact List.getElem?_eq_getElem hi⟩
    obtain ⟨x1, x2, x3⟩ := runOf_start hs
    have hf := runOf_fits a b i k hi hk
    have hr := rare_len a (runOf a b i k) x3 hf.1
    have hnew : ∀ y, Cand a b y → y.A = i → y.B = k → y = runOf a b i k := fun y hy e1 e2 => by
      rw [← e1, ← e2, runOf_self hy.1 hy.2.1]
    unfold rstep
    rw [if_pos hab]
    generalize hx : runOf a b i k = x at *
    by_cases c : rare a.length a x ≤ 64
    · have hc : Cand a b x := ⟨x1, x2, by omega⟩
      cases o with
      | none =>
        have : rtake a x none = true := by simp [rtake, c]
        rw [if_pos this]
        refine ⟨fun r e => (by injection e with e; subst e; exact hc), fun y hy hs => ⟨x, rfl, ?_⟩⟩
        rcases hs with hs | ⟨e1, hs⟩
        · obtain ⟨r, e, _⟩ := h.best y hy (.inl hs); cases e
        · by_cases e2 : y.B = k
          · exact .inl (hnew y hy e1 e2)
          · obtain ⟨r, e, _⟩ := h.best y hy (.inr ⟨e1, by omega⟩); cases e
      | some r =>
        have hr1 := h.cand r rfl
        have ht : rtake a x (some r) = bet 65 a x r := by simp [rtake, c, bet_cand hc hr1]
        rw [ht]
        by_cases hb : bet 65 a x r = true
        · rw [if_pos hb]
          refine ⟨fun r' e => (by injection e with e; subst e; exact hc), fun y hy hs => ⟨x, rfl, ?_⟩⟩
          have key : ∀ hs : Seen i k y.A y.B, y = x ∨ bet 65 a x y = true := fun hs => by
            obtain ⟨r', e, h'⟩ := h.best y hy hs
            injection e with e; subst e
            rcases h' with rfl | h'
            · exact .inr hb
            · exact .inr (bet_trans 65 a _ _ _ hb h')
          rcases hs with hs | ⟨e1, hs⟩
          · exact key (.inl hs)
          · by_cases e2 : y.B = k
            · exact .inl (hnew y hy e1 e2)
            · exact key (.inr ⟨e1, by omega⟩)
        · rw [if_neg hb]
          refine ⟨h.cand, fun y hy hs => ?_⟩
          rcases hs with hs | ⟨e1, hs⟩
          · exact h.best y hy (.inl hs)
          · by_cases e2 : y.B = k
            · refine ⟨r, rfl, ?_⟩
              rw [hnew y hy e1 e2]
              exact bet_total 65 a x r (by simpa using hb)
            · exact h.best y hy (.inr ⟨e1, by omega⟩)
    · have ht : rtake a x o = false := by simp [rtake, c]
      rw [ht, if_neg (by simp)]
      refine ⟨h.cand, fun y hy hs => ?_⟩
      rcases hs with hs | ⟨e1, hs⟩
      · exact h.best y hy (.inl hs)
      · by_cases e2 : y.B = k
        · have := hnew y hy e1 e2
          subst this
          have := hy.2.2
          omega
        · exact h.best y hy (.inr ⟨e1, by omega⟩)
  · unfold rstep
    rw [if_neg hab]
    refine ⟨h.cand, fun y hy hs => ?_⟩
    rcases hs with hs | ⟨e1, hs⟩
    · exact h.best y hy (.inl hs)
    · by_cases e2 : y.B = k
      · obtain ⟨s, s1, s2⟩ := hy.1.1
        rw [e1] at s1; rw [e2] at s2
        exact absurd (by rw [s1, s2]) hab
      · exact h.best y hy (.inr ⟨e1, by omega⟩)
theorem rIn_inv {a b : List S} {i : Nat} (hi : i < a.length) : ∀ (m k : Nat) (o : Option Rn), k + m = b.length → RInv a b i k o → RInv a b i b.length (rIn a b i m k o)
  | 0, k, o, hk, h => by have : k = b.length := by omega
                         subst this; exact h
  | m + 1, k, o, hk, h => rIn_inv hi m (k + 1) _ (by omega) (rstep_inv hi (by omega) h)
theorem rOut_inv {a b : List S} : ∀ (m i : Nat) (o : Option Rn), i + m = a.length → RInv a b i 0 o → RInv a b a.length 0 (rOut a b m i o)
  | 0, i, o, hi, h => by have : i = a.length := by omega
                         subst this; exact h
  | m + 1, i, o, hi, h => by
    have h2 := rIn_inv (i := i) (by omega) b.length 0 o (Nat.zero_add _) h
    refine rOut_inv m (i + 1) _ (by omega) ⟨h2.cand, fun y hy hs => h2.best y hy ?_⟩
    have := cand_fits hy
    rcases hs with hs | ⟨_, hs⟩
    · rcases Nat.lt_or_ge y.A i with c | c
      · exact .inl c
      · exact .inr ⟨by omega, by omega⟩
    · omega
theorem ranchor_is (a b : List S) : IsAnchor a b (rOut a b a.length 0 none) := by
  have h := rOut_inv (b := b) a.length 0 none (Nat.zero_add _) ⟨fun r e => (by cases e), fun y hy hs => (by
    rcases hs with hs | ⟨_, hs⟩ <;> omega)⟩
  have hseen : ∀ y, Cand a b y → Seen a.length 0 y.A y.B := fun y hy => by
    have := cand_fits hy
    exact .inl (by omega)
  unfold IsAnchor
  cases ho : rOut a b a.length 0 none with
  | none =>
    intro y hy
    rw [ho] at h
    obtain ⟨r, e, _⟩ := h.best y hy (hseen y hy)
    cases e
  | some r =>
    rw [ho] at h
    refine ⟨h.cand r rfl, fun y hy => ?_⟩
    obtain ⟨r', e, h'⟩ := h.best y hy (hseen y hy)
    injection e with e; subst e
    exact h'

/-! ### The program's way -/
structure PSt where
  best : Rn
  rr : Nat
  found : Bool
def skips (a b : List S) (i j : Nat) : Bool := decide (0 < i) && decide (0 < j) && decide (a[i - 1]? = b[j - 1]?)
def pnew (a b : List S) (i j : Nat) : Rn := ⟨i, j, lcp (a.drop i) (b.drop j)⟩
def ptake (a b : List S) (i j : Nat) (s : PSt) : Bool := decide (rare 65 a (pnew a b i j) < s.rr) || (s.found && decide (rare 65 a (pnew a b i j) = s.rr) && decide (s.best.N < (pnew a b i j).N))
def pstep (a b : List S) (i j : Nat) (s : PSt) : PSt := if skips a b i j = true then s else if ptake a b i j s = true then ⟨pnew a b i j, rare 65 a (pnew a b i j), true⟩ else s
def pls (b : List S) (s : S) (k m : Nat) : List Nat := (List.range' k m).filter fun j => decide (b[j]? = some s)
def pIn (a b : List S) (i : Nat) : List Nat → PSt → PSt
  | [], s => s
  | j :: l, s => pIn a b i l (pstep a b i j s)
def pOut (a b : List S) : Nat → Nat → PSt → PSt
  | 0, _, s => s
  | m + 1, i, s => pOut a b m (i + 1) (pIn a b i (pls b ((a[i]?).getD []) 0 b.length) s)

structure PInv (a b : List S) (i k : Nat) (s : PSt) : Prop where
  no : s.found = false → s.rr = 65 ∧ s.best = ⟨0, 0, 0⟩
  yes : s.found = true → Cand a b s.best ∧ s.rr = rare 65 a s.best ∧ Seen i k s.best.A s.best.B
  best : ∀ y, Cand a b y → Seen i k y.A y.B → s.found = true ∧ (y = s.best ∨ bet 65 a s.best y = true)
theorem PInv.next {a b : List S} {i k : Nat} {s : PSt} (h : PInv a b i k s) (hno : ∀ y, Cand a b y → y.A = i → y.B = k → s.found = true ∧ (y = s.best ∨ bet 65 a s.best y = true)) : PInv a b i (k + 1) s := by
  refine ⟨h.no, fun hf => ?_, fun y hy hs => ?_⟩
  · obtain ⟨h1, h2, h3⟩ := h.yes hf
    refine ⟨h1, h2, ?_⟩
    rcases h3 with h3 | ⟨e, h3⟩
    · exact .inl h3
    · exact .inr ⟨e, by omega⟩
  · rcases hs with hs | ⟨e1, hs⟩
    · exact h.best y hy (.inl hs)
    · by_cases e2 : y.B = k
      · exact hno y hy e1 e2
      · exact h.best y hy (.inr ⟨e1, by omega⟩)
theorem pstep_inv {a b : List S} {i k : Nat} {s : PSt} (he : ∃ x, a[i]? = some x ∧ b[k]? = some x) (h : PInv a b i k s) : PInv a b i (k + 1) (pstep a b i k s) := by
  have hnew : ∀ y, Cand a b y → y.A = i → y.B = k → y = pnew a b i k := fun y hy e1 e2 => Rn.eq e1 e2 (by rw [hy.2.1, e1, e2]; rfl)
  unfold pstep
  by_cases hsk : skips a b i k = true
  · rw [if_pos hsk]
    refine h.next fun y hy e1 e2 => ?_
    have := hy.1.2
    rw [e1, e2] at this
    simp only [skips, Bool.and_eq_true, decide_eq_true_iff] at hsk
    exact (this ⟨hsk.1.1, hsk.1.2, hsk.2⟩).elim
  · rw [if_neg hsk]
    have hst : Start a b i k := by
      refine ⟨he, fun hh => hsk ?_⟩
      simp only [skips, Bool.and_eq_true, decide_eq_true_iff]
      exact ⟨⟨hh.1, hh.2.1⟩, hh.2.2⟩
    generalize hx : pnew a b i k = x at *
    have hxA : x.A = i := by rw [← hx]; rfl
    have hxB : x.B = k := by rw [← hx]; rfl
    have hxN : x.N = lcp (a.drop i) (b.drop k) := by rw [← hx]; rfl
    have hpt : ptake a b i k s = (decide (rare 65 a x < s.rr) || (s.found && decide (rare 65 a x = s.rr) && decide (s.best.N < x.N))) := by unfold ptake; rw [hx]
    rw [hpt]
    have hrle := rare_le 65 a x
    by_cases c : (decide (rare 65 a x < s.rr) || (s.found && decide (rare 65 a x = s.rr) && decide (s.best.N < x.N))) = true
    · rw [if_pos c]
      simp only [Bool.or_eq_true, Bool.and_eq_true, decide_eq_true_iff] at c
      have hlt : rare 65 a x ≤ 64 := by
        cases hf : s.found with
        | false => have := (h.no hf).1; rcases c with c | ⟨⟨c, _⟩, _⟩
                   · omega
                   · rw [hf] at c; cases c
        | true => obtain ⟨y1, y2, _⟩ := h.yes hf; have := y1.2.2; rcases c with c | ⟨⟨_, c⟩, _⟩ <;> omega
      have hc : Cand a b x := ⟨by rw [hxA, hxB]; exact hst, by rw [hxA, hxB]; exact hxN, hlt⟩
      refine ⟨fun hf => (by simp at hf), fun _ => ⟨hc, rfl, .inr ⟨hxA, by simp only; omega⟩⟩, fun y hy hs => ⟨rfl, ?_⟩⟩
      have key : ∀ hs : Seen i k y.A y.B, y = x ∨ bet 65 a x y = true := fun hs => by
        obtain ⟨hf, h'⟩ := h.best y hy hs
        obtain ⟨y1, y2, y3⟩ := h.yes hf
        have hb : bet 65 a x s.best = true := by
          rw [bet_iff]
          rcases c with c | ⟨⟨_, c⟩, c2⟩
          · exact .inl (by omega)
          · exact .inr ⟨by omega, .inl c2⟩
        rcases h' with rfl | h'
        · exact .inr hb
        · exact .inr (bet_trans 65 a _ _ _ hb h')
      rcases hs with hs | ⟨e1, hs⟩
      · exact key (.inl hs)
      · by_cases e2 : y.B = k
        · exact .inl (hnew y hy e1 e2)
        · exact key (.inr ⟨e1, by omega⟩)
    · rw [if_neg c]
      simp only [Bool.or_eq_true, Bool.and_eq_true, decide_eq_true_iff, not_or, not_and] at c
      refine h.next fun y hy e1 e2 => ?_
      have := hnew y hy e1 e2
      subst this
      have hy2 := hy.2.2
      cases hf : s.found with
      | false => have := (h.no hf).1; omega
      | true =>
        obtain ⟨y1, y2, y3⟩ := h.yes hf
        refine ⟨rfl, .inr ?_⟩
        rw [bet_iff]
        have c2 : rare 65 a y = s.rr → ¬ s.best.N < y.N := fun e => c.2 ⟨hf, e⟩
        have hseen : s.best.A < y.A ∨ (s.best.A = y.A ∧ s.best.B < y.B) := by
          rcases y3 with y3 | ⟨y3, y4⟩ <;> omega
        by_cases e : rare 65 a y = s.rr
        · have := c2 e
          omega
        · omega
theorem pIn_inv {a b : List S} {i : Nat} {x : S} (hi : a[i]? = some x) : ∀ (m k : Nat) (s : PSt), k + m = b.length → PInv a b i k s → PInv a b i b.length (pIn a b i (pls b x k m) s)
  | 0, k, s, hk, h => by
    have : k = b.length := by omega
    subst this
    simpa [pls, pIn] using h
  | m + 1, k, s, hk, h => by
    unfold pls
    rw [List.range'_succ, List.filter_cons]
    by_cases c : b[k]? = some x
    · rw [if_pos (by simpa using c)]
      exact pIn_inv hi m (k + 1) _ (by omega) (pstep_inv ⟨x, hi, c⟩ h)
    · rw [if_neg (by simpa using c)]
      refine pIn_inv hi m (k + 1) _ (by omega) (h.next fun y hy e1 e2 => ?_)
      obtain ⟨s', s1, s2⟩ := hy.1.1
      rw [e1, hi] at s1; rw [e2] at s2
      injection s1 with s1; subst s1
      exact absurd s2 c
theorem pOut_inv {a b : List S} : ∀ (m i : Nat) (s : PSt), i + m = a.length → PInv a b i 0 s → PInv a b a.length 0 (pOut a b m i s)
  | 0, i, s, hi, h => by have : i = a.length := by omega
                         subst this; exact h
  | m + 1, i, s, hi, h => by
    have hx : a[i]? = some (a[i]'(by omega)) := List.getElem?_eq_getElem _
    have h2 := pIn_inv hx b.length 0 s (Nat.zero_add _) h
    simp only [pOut, hx, Option.getD_some]
    refine pOut_inv m (i + 1) _ (by omega) ⟨h2.no, fun hf => ?_, fun y hy hs => h2.best y hy ?_⟩
    · obtain ⟨h3, h4, h5⟩ := h2.yes hf
      refine ⟨h3, h4, .inl ?_⟩
      rcases h5 with h5 | h5 <;> omega
    · have := cand_fits hy
      rcases hs with hs | ⟨_, hs⟩
      · rcases Nat.lt_or_ge y.A i with c | c
        · exact .inl c
        · exact .inr ⟨by omega, by omega⟩
      · omega
def pRes (a b : List S) : PSt := pOut a b a.length 0 ⟨⟨0, 0, 0⟩, 65, false⟩
theorem panchor_is (a b : List S) : IsAnchor a b (if (pRes a b).found = true then some (pRes a b).best else none) ∧ ((pRes a b).found = false → (pRes a b).best = ⟨0, 0, 0⟩) := by
  have h := pOut_inv (b := b) a.length 0 ⟨⟨0, 0, 0⟩, 65, false⟩ (Nat.zero_add _) ⟨fun _ => ⟨rfl, rfl⟩, fun hf => (by simp at hf), fun y hy hs => (by
    rcases hs with hs | ⟨_, hs⟩ <;> omega)⟩
  have hseen : ∀ y, Cand a b y → Seen a.length 0 y.A y.B := fun y hy => by
    have := cand_fits hy
    exact .inl (by omega)
  change PInv a b a.length 0 (pRes a b) at h
  refine ⟨?_, fun hf => (h.no hf).2⟩
  unfold IsAnchor
  cases hf : (pRes a b).found with
  | true =>
    rw [if_pos rfl]
    exact ⟨(h.yes hf).1, fun y hy => (h.best y hy (hseen y hy)).2⟩
  | false =>
    rw [if_neg (by simp)]
    intro y hy
    have := (h.best y hy (hseen y hy)).1
    rw [hf] at this; cases this
/-- Both find the same. -/
theorem anchors_same (a b : List S) : (pRes a b).best = bestR (rOut a b a.length 0 none) ∧ (pRes a b).found = (rOut a b a.length 0 none).isSome := by
  have h1 := panchor_is a b
  have h2 := IsAnchor.uniq h1.1 (ranchor_is a b)
  rw [← h2]
  cases hf : (pRes a b).found with
  | true => exact ⟨rfl, rfl⟩
  | false => exact ⟨h1.2 hf, rfl⟩
end Go.Proofs.Ytmmcepbcjlopdaa.E.Hs

/- The program's anchor: what it computes. Conditions: none. -/
namespace Go.Proofs.Ytmmcepbcjlopdaa.E.Hs
set_option linter.unusedVariables false
set_option linter.unusedSimpArgs false
set_option maxHeartbeats 20000000

def cv (m : Nat) : Option V := if m = 0 then none else some (.int .i64 m)
theorem cv_getD (m : Nat) : (cv m).getD (.int .i64 0) = .int .i64 m := by
  unfold cv; split
  · rename_i h; subst h; rfl
  · rfl
theorem cv_succ (m : Nat) : cv (m + 1) = some (.int .i64 ((m : Int) + 1)) := by unfold cv; rw [if_neg (by omega)]; rfl
/-- The map of counts. -/
def CntM (a : List S) (i : Nat) (m : MS) : Prop := ∀ s, gt m s = cv ((a.take i).count s)
def plsV (l : List Nat) : List V := l.map fun (j : Nat) => V.int .i64 (j : Int)
def pv (l : List Nat) : Option V := if l = [] then none else some (.sl true 1 (plsV l))
/-- The map of places. -/
def PlM (b : List S) (k : Nat) (m : MS) : Prop := ∀ s, gt m s = pv (pls b s 0 k)
theorem pls_succ (b : List S) (s : S) (k : Nat) : pls b s 0 (k + 1) = pls b s 0 k ++ (if b[k]? = some s then [k] else []) := by
  unfold pls
  rw [List.range'_concat, List.filter_append]
  congr 1
  simp only [Nat.one_mul, Nat.zero_add, List.filter_cons, List.filter_nil, decide_eq_true_eq]
theorem pls_lt (b : List S) (s : S) (k : Nat) (j : Nat) (h : j ∈ pls b s 0 k) : j < k ∧ b[j]? = some s := by
  unfold pls at h
  rw [List.mem_filter, List.mem_range'] at h
  obtain ⟨⟨i, hi, rfl⟩, h2⟩ := h
  exact ⟨by omega, by simpa using h2⟩
theorem pls_len (b : List S) (s : S) (k : Nat) : (pls b s 0 k).length ≤ k := by
  unfold pls
  exact Nat.le_trans (List.length_filter_le _ _) (by simp)

theorem pv_getD (l : List Nat) : clr2 ((pv l).getD (.sl true 1 [])) = .sl false 1 (plsV l) := by
  unfold pv; split
  · rename_i h; subst h; rfl
  · rfl
theorem anchor_loop2 (b : List S) (k : Nat) (x : S) (m : MS) (hx : b[k]? = some x) (h : PlM b k m) (m' : MS) (hm' : ∀ s, s ≠ x → gt m' s = gt m s) : PlM b (k + 1) (ins m' x (.sl true 1 (plsV (pls b x 0 k) ++ [.int .i64 k]))) := by
  intro s
  rw [gt_ins, pls_succ, hx]
  rcases Classical.em (s = x) with e | e
  · subst e
    rw [if_pos rfl, if_pos rfl, pv, if_neg (by simp)]
    simp [plsV]
  · rw [if_neg e, if_neg (by intro e'; injection e' with e'; exact e e'.symm), List.append_nil, hm' s e, h s]
theorem rare_pre (a : List S) (i j n : Nat) (L : Nat) : rare L a ⟨i, j, n⟩ = ((a.drop i).take n).foldl (fun m s => min m (a.count s)) L := rfl
theorem anchor_loop1 (a : List S) (i : Nat) (x : S) (m : MS) (hx : a[i]? = some x) (h : CntM a i m) : CntM a (i + 1) (ins m x (.int .i64 (((a.take i).count x : Nat) + 1))) := by
  intro s
  rw [gt_ins, List.take_add_one, hx]
  simp only [Option.toList_some, List.count_append]
  rcases Classical.em (s = x) with e | e
  · subst e
    rw [if_pos rfl, List.count_singleton_self, cv_succ]
  · rw [if_neg e, h s, List.count_singleton, if_neg (by simpa using fun e' => e e'.symm)]
    rfl

theorem anchor_spec (o o' : Bool) (a b : List S) (ha : a.length ≤ 1000000) (hb : b.length ≤ 1000000) :
    Run tab 13 0 [.sl o 1 (a.map .str), .sl o' 1 (b.map .str)] [] 0 (fun r _ _ => r = .tup [(.agg [.int .i64 ((pRes a b).best).A, .int .i64 ((pRes a b).best).B, .int .i64 ((pRes a b).best).N]), .bool (pRes a b).found]) := by
  refine enter (F := f13) rfl rfl ?_
  simp only [f13, ex,reduceIte,reduceCtorEq,Nat.reduceEqDiff,Nat.reduceLT,Nat.reduceLeDiff,Nat.reduceAdd,Nat.reduceSub,Nat.reduceMul,Int.reduceAdd,Int.reduceSub,Int.reduceMul,Int.reduceNeg,Int.reduceLE,Int.reduceLT,Int.reduceEq,Int.reduceToNat]
  (try simp only [ex,reduceIte,reduceCtorEq,Nat.reduceEqDiff,Nat.reduceLT,Nat.reduceLeDiff,Nat.reduceAdd,Nat.reduceSub,Nat.reduceMul,Int.reduceAdd,Int.reduceSub,Int.reduceMul,Int.reduceNeg,Int.reduceLE,Int.reduceLT,Int.reduceEq,Int.reduceToNat]) <;> repeat ((with_reducible refine Req.intro ?_ ?_); (first | omega | (simp <;> omega)); try simp only [ex,reduceIte,reduceCtorEq,Nat.reduceEqDiff,Nat.reduceLT,Nat.reduceLeDiff,Nat.reduceAdd,Nat.reduceSub,Nat.reduceMul,Int.reduceAdd,Int.reduceSub,Int.reduceMul,Int.reduceNeg,Int.reduceLE,Int.reduceLT,Int.reduceEq,Int.reduceToNat])
  refine loopI fun L1 hL1 => ?_
  (try simp only [ex,reduceIte,reduceCtorEq,Nat.reduceEqDiff,Nat.reduceLT,Nat.reduceLeDiff,Nat.reduceAdd,Nat.reduceSub,Nat.reduceMul,Int.reduceAdd,Int.reduceSub,Int.reduceMul,Int.reduceNeg,Int.reduceLE,Int.reduceLT,Int.reduceEq,Int.reduceToNat]) <;> repeat ((with_reducible refine Req.intro ?_ ?_); (first | omega | (simp <;> omega)); try simp only [ex,reduceIte,reduceCtorEq,Nat.reduceEqDiff,Nat.reduceLT,Nat.reduceLeDiff,Nat.reduceAdd,Nat.reduceSub,Nat.reduceMul,Int.reduceAdd,Int.reduceSub,Int.reduceMul,Int.reduceNeg,Int.reduceLE,Int.reduceLT,Int.reduceEq,Int.reduceToNat])
  have key1 : ∀ (m i : Nat) (cm : MS), i + m = a.length → CntM a i cm → L1 (L13_1 (.sl o 1 (a.map .str)) (.sl o' 1 (b.map .str)) (.ptr 0 3 0 0) (.hm 1) (.sl false 1 (a.map .str)) (.int .i64 a.length) (.int .i64 i) 0 [.int .i64 0, .int .i64 0, .int .i64 0] [(1, .map (emb cm))] 2) := by
    intro m
    induction m with
    | succ m ih =>
      intro i cm hi hm
      apply hL1
      simp only [L13_1, l13_1, ex,reduceIte,reduceCtorEq,Nat.reduceEqDiff,Nat.reduceLT,Nat.reduceLeDiff,Nat.reduceAdd,Nat.reduceSub,Nat.reduceMul,Int.reduceAdd,Int.reduceSub,Int.reduceMul,Int.reduceNeg,Int.reduceLE,Int.reduceLT,Int.reduceEq,Int.reduceToNat]
      have h1 : decide ((i : Int) < (a.length : Int)) = true := by simp; omega
      have g1 : a[i]? = some (a[i]'(by omega)) := List.getElem?_eq_getElem _
      generalize hx : a[i]'(by omega) = x at g1
      have hc := count_le a x i
      (try simp only [h1, g1, findK_str, outQ_gt, hm x, cv_getD, upd_ins, ex,reduceIte,reduceCtorEq,Nat.reduceEqDiff,Nat.reduceLT,Nat.reduceLeDiff,Nat.reduceAdd,Nat.reduceSub,Nat.reduceMul,Int.reduceAdd,Int.reduceSub,Int.reduceMul,Int.reduceNeg,Int.reduceLE,Int.reduceLT,Int.reduceEq,Int.reduceToNat]) <;> repeat ((with_reducible refine Req.intro ?_ ?_); (first | omega | (simp <;> omega)); try simp only [h1, g1, findK_str, outQ_gt, hm x, cv_getD, upd_ins, ex,reduceIte,reduceCtorEq,Nat.reduceEqDiff,Nat.reduceLT,Nat.reduceLeDiff,Nat.reduceAdd,Nat.reduceSub,Nat.reduceMul,Int.reduceAdd,Int.reduceSub,Int.reduceMul,Int.reduceNeg,Int.reduceLE,Int.reduceLT,Int.reduceEq,Int.reduceToNat])
      exact ih (i + 1) _ (by omega) (anchor_loop1 a i x cm g1 hm)
    | zero =>
      intro i cm hi hm
      apply hL1
      simp only [L13_1, l13_1, ex,reduceIte,reduceCtorEq,Nat.reduceEqDiff,Nat.reduceLT,Nat.reduceLeDiff,Nat.reduceAdd,Nat.reduceSub,Nat.reduceMul,Int.reduceAdd,Int.reduceSub,Int.reduceMul,Int.reduceNeg,Int.reduceLE,Int.reduceLT,Int.reduceEq,Int.reduceToNat]
      have h1 : decide ((i : Int) < (a.length : Int)) = false := by simp; omega
      (try simp only [h1, ex,reduceIte,reduceCtorEq,Nat.reduceEqDiff,Nat.reduceLT,Nat.reduceLeDiff,Nat.reduceAdd,Nat.reduceSub,Nat.reduceMul,Int.reduceAdd,Int.reduceSub,Int.reduceMul,Int.reduceNeg,Int.reduceLE,Int.reduceLT,Int.reduceEq,Int.reduceToNat]) <;> repeat ((with_reducible refine Req.intro ?_ ?_); (first | omega | (simp <;> omega)); try simp only [h1, ex,reduceIte,reduceCtorEq,Nat.reduceEqDiff,Nat.reduceLT,Nat.reduceLeDiff,Nat.reduceAdd,Nat.reduceSub,Nat.reduceMul,Int.reduceAdd,Int.reduceSub,Int.reduceMul,Int.reduceNeg,Int.reduceLE,Int.reduceLT,Int.reduceEq,Int.reduceToNat])
      have hm : CntM a a.length cm := by rw [show a.length = i by omega]; exact hm
      refine loopI fun L2 hL2 => ?_
      (try simp only [ex,reduceIte,reduceCtorEq,Nat.reduceEqDiff,Nat.reduceLT,Nat.reduceLeDiff,Nat.reduceAdd,Nat.reduceSub,Nat.reduceMul,Int.reduceAdd,Int.reduceSub,Int.reduceMul,Int.reduceNeg,Int.reduceLE,Int.reduceLT,Int.reduceEq,Int.reduceToNat]) <;> repeat ((with_reducible refine Req.intro ?_ ?_); (first | omega | (simp <;> omega)); try simp only [ex,reduceIte,reduceCtorEq,Nat.reduceEqDiff,Nat.reduceLT,Nat.reduceLeDiff,Nat.reduceAdd,Nat.reduceSub,Nat.reduceMul,Int.reduceAdd,Int.reduceSub,Int.reduceMul,Int.reduceNeg,Int.reduceLE,Int.reduceLT,Int.reduceEq,Int.reduceToNat])
      have key2 : ∀ (m k : Nat) (pm : MS), k + m = b.length → PlM b k pm → L2 (L13_2 (.sl o 1 (a.map .str)) (.sl o' 1 (b.map .str)) (.ptr 0 3 0 0) (.hm 1) (.hm 2) (.sl false 1 (b.map .str)) (.int .i64 b.length) (.int .i64 k) 0 [.int .i64 0, .int .i64 0, .int .i64 0] [(1, .map (emb cm)), (2, .map (emb pm))] 3) := by
        intro m
        induction m with
        | succ m ih =>
          intro k pm hk hp
          apply hL2
          simp only [L13_2, l13_2, ex,reduceIte,reduceCtorEq,Nat.reduceEqDiff,Nat.reduceLT,Nat.reduceLeDiff,Nat.reduceAdd,Nat.reduceSub,Nat.reduceMul,Int.reduceAdd,Int.reduceSub,Int.reduceMul,Int.reduceNeg,Int.reduceLE,Int.reduceLT,Int.reduceEq,Int.reduceToNat]
          have h1 : decide ((k : Int) < (b.length : Int)) = true := by simp; omega
          have g1 : b[k]? = some (b[k]'(by omega)) := List.getElem?_eq_getElem _
          generalize hx : b[k]'(by omega) = x at g1
          have hc := pls_len b x k
          have hpx := hp x
          rcases Classical.em (pls b x 0 k = []) with c | c
          · rw [c] at hpx
            have e : plsV (pls b x 0 k) ++ [V.int .i64 k] = [V.int .i64 k] := by rw [c]; rfl
            have h2 := anchor_loop2 b k x pm g1 hp pm (fun s _ => rfl)
            rw [e] at h2
            (try simp only [h1, g1, findK_str, lkT_none hpx, upd_ins, ex,reduceIte,reduceCtorEq,Nat.reduceEqDiff,Nat.reduceLT,Nat.reduceLeDiff,Nat.reduceAdd,Nat.reduceSub,Nat.reduceMul,Int.reduceAdd,Int.reduceSub,Int.reduceMul,Int.reduceNeg,Int.reduceLE,Int.reduceLT,Int.reduceEq,Int.reduceToNat]) <;> repeat ((with_reducible refine Req.intro ?_ ?_); (first | omega | (simp <;> omega)); try simp only [h1, g1, findK_str, lkT_none hpx, upd_ins, ex,reduceIte,reduceCtorEq,Nat.reduceEqDiff,Nat.reduceLT,Nat.reduceLeDiff,Nat.reduceAdd,Nat.reduceSub,Nat.reduceMul,Int.reduceAdd,Int.reduceSub,Int.reduceMul,Int.reduceNeg,Int.reduceLE,Int.reduceLT,Int.reduceEq,Int.reduceToNat])
            exact ih (k + 1) _ (by omega) h2
          · have hpx2 : gt pm x = some (.sl true 1 (plsV (pls b x 0 k))) := by rw [hpx, pv, if_neg c]
            have hpl : (plsV (pls b x 0 k)).length = (pls b x 0 k).length := by simp [plsV]
            have h2 := anchor_loop2 b k x pm g1 hp (ins pm x (clr2 (.sl true 1 (plsV (pls b x 0 k))))) (fun s hs => by rw [gt_ins, if_neg hs])
            (try simp only [h1, g1, findK_str, lkT_some hpx2, upd_ins, ex,reduceIte,reduceCtorEq,Nat.reduceEqDiff,Nat.reduceLT,Nat.reduceLeDiff,Nat.reduceAdd,Nat.reduceSub,Nat.reduceMul,Int.reduceAdd,Int.reduceSub,Int.reduceMul,Int.reduceNeg,Int.reduceLE,Int.reduceLT,Int.reduceEq,Int.reduceToNat]) <;> repeat ((with_reducible refine Req.intro ?_ ?_); (first | omega | (simp <;> omega)); try simp only [h1, g1, findK_str, lkT_some hpx2, upd_ins, ex,reduceIte,reduceCtorEq,Nat.reduceEqDiff,Nat.reduceLT,Nat.reduceLeDiff,Nat.reduceAdd,Nat.reduceSub,Nat.reduceMul,Int.reduceAdd,Int.reduceSub,Int.reduceMul,Int.reduceNeg,Int.reduceLE,Int.reduceLT,Int.reduceEq,Int.reduceToNat])
            exact ih (k + 1) _ (by omega) h2
        | zero =>
          intro k pm hk hp
          apply hL2
          simp only [L13_2, l13_2, ex,reduceIte,reduceCtorEq,Nat.reduceEqDiff,Nat.reduceLT,Nat.reduceLeDiff,Nat.reduceAdd,Nat.reduceSub,Nat.reduceMul,Int.reduceAdd,Int.reduceSub,Int.reduceMul,Int.reduceNeg,Int.reduceLE,Int.reduceLT,Int.reduceEq,Int.reduceToNat]
          have h1 : decide ((k : Int) < (b.length : Int)) = false := by simp; omega
          (try simp only [h1, ex,reduceIte,reduceCtorEq,Nat.reduceEqDiff,Nat.reduceLT,Nat.reduceLeDiff,Nat.reduceAdd,Nat.reduceSub,Nat.reduceMul,Int.reduceAdd,Int.reduceSub,Int.reduceMul,Int.reduceNeg,Int.reduceLE,Int.reduceLT,Int.reduceEq,Int.reduceToNat]) <;> repeat ((with_reducible refine Req.intro ?_ ?_); (first | omega | (simp <;> omega)); try simp only [h1, ex,reduceIte,reduceCtorEq,Nat.reduceEqDiff,Nat.reduceLT,Nat.reduceLeDiff,Nat.reduceAdd,Nat.reduceSub,Nat.reduceMul,Int.reduceAdd,Int.reduceSub,Int.reduceMul,Int.reduceNeg,Int.reduceLE,Int.reduceLT,Int.reduceEq,Int.reduceToNat])
          have hp : PlM b b.length pm := by rw [show b.length = k by omega]; exact hp
          refine loopI fun L5 hL5 => ?_
          (try simp only [ex,reduceIte,reduceCtorEq,Nat.reduceEqDiff,Nat.reduceLT,Nat.reduceLeDiff,Nat.reduceAdd,Nat.reduceSub,Nat.reduceMul,Int.reduceAdd,Int.reduceSub,Int.reduceMul,Int.reduceNeg,Int.reduceLE,Int.reduceLT,Int.reduceEq,Int.reduceToNat]) <;> repeat ((with_reducible refine Req.intro ?_ ?_); (first | omega | (simp <;> omega)); try simp only [ex,reduceIte,reduceCtorEq,Nat.reduceEqDiff,Nat.reduceLT,Nat.reduceLeDiff,Nat.reduceAdd,Nat.reduceSub,Nat.reduceMul,Int.reduceAdd,Int.reduceSub,Int.reduceMul,Int.reduceNeg,Int.reduceLE,Int.reduceLT,Int.reduceEq,Int.reduceToNat])
          have key5 : ∀ (m i : Nat) (s : PSt), i + m = a.length → pOut a b m i s = pRes a b → L5 (L13_5 (.sl o 1 (a.map .str)) (.sl o' 1 (b.map .str)) (.ptr 0 3 0 0) (.hm 1) (.hm 2) (.ptr 3 3 0 0) (.int .i64 s.rr) (.bool s.found) (.int .i64 a.length) (.int .i64 i) 0 [.int .i64 0, .int .i64 0, .int .i64 0] 3 [.int .i64 s.best.A, .int .i64 s.best.B, .int .i64 s.best.N] [(1, .map (emb cm)), (2, .map (emb pm))] 4) := by
            intro m
            induction m with
            | zero =>
              intro i s hi hs
              apply hL5
              simp only [L13_5, l13_5, ex,reduceIte,reduceCtorEq,Nat.reduceEqDiff,Nat.reduceLT,Nat.reduceLeDiff,Nat.reduceAdd,Nat.reduceSub,Nat.reduceMul,Int.reduceAdd,Int.reduceSub,Int.reduceMul,Int.reduceNeg,Int.reduceLE,Int.reduceLT,Int.reduceEq,Int.reduceToNat]
              have h1 : decide ((i : Int) < (a.length : Int)) = false := by simp; omega
              simp only [pOut] at hs
              subst hs
              (try simp only [h1, ex,reduceIte,reduceCtorEq,Nat.reduceEqDiff,Nat.reduceLT,Nat.reduceLeDiff,Nat.reduceAdd,Nat.reduceSub,Nat.reduceMul,Int.reduceAdd,Int.reduceSub,Int.reduceMul,Int.reduceNeg,Int.reduceLE,Int.reduceLT,Int.reduceEq,Int.reduceToNat]) <;> repeat ((with_reducible refine Req.intro ?_ ?_); (first | omega | (simp <;> omega)); try simp only [h1, ex,reduceIte,reduceCtorEq,Nat.reduceEqDiff,Nat.reduceLT,Nat.reduceLeDiff,Nat.reduceAdd,Nat.reduceSub,Nat.reduceMul,Int.reduceAdd,Int.reduceSub,Int.reduceMul,Int.reduceNeg,Int.reduceLE,Int.reduceLT,Int.reduceEq,Int.reduceToNat])
            | succ m ih =>
              intro i s hi hs
              apply hL5
              simp only [L13_5, l13_5, ex,reduceIte,reduceCtorEq,Nat.reduceEqDiff,Nat.reduceLT,Nat.reduceLeDiff,Nat.reduceAdd,Nat.reduceSub,Nat.reduceMul,Int.reduceAdd,Int.reduceSub,Int.reduceMul,Int.reduceNeg,Int.reduceLE,Int.reduceLT,Int.reduceEq,Int.reduceToNat]
              have h1 : decide ((i : Int) < (a.length : Int)) = true := by simp; omega
              have g1 : a[i]? = some (a[i]'(by omega)) := List.getElem?_eq_getElem _
              generalize hx : a[i]'(by omega) = x at g1
              simp only [pOut, g1, Option.getD_some] at hs
              have hpl := pls_len b x b.length
              have hplt := pls_lt b x b.length
              generalize hl : pls b x 0 b.length = l at *
              have hpx : clr2 ((gt pm x).getD (.sl true 1 [])) = .sl false 1 (plsV l) := by rw [hp x, pv_getD, hl]
              have hll : (plsV l).length = l.length := by simp [plsV]
              (try simp only [h1, g1, findK_str, outQ_gt, hpx, hll, ex,reduceIte,reduceCtorEq,Nat.reduceEqDiff,Nat.reduceLT,Nat.reduceLeDiff,Nat.reduceAdd,Nat.reduceSub,Nat.reduceMul,Int.reduceAdd,Int.reduceSub,Int.reduceMul,Int.reduceNeg,Int.reduceLE,Int.reduceLT,Int.reduceEq,Int.reduceToNat]) <;> repeat ((with_reducible refine Req.intro ?_ ?_); (first | omega | (simp <;> omega)); try simp only [h1, g1, findK_str, outQ_gt, hpx, hll, ex,reduceIte,reduceCtorEq,Nat.reduceEqDiff,Nat.reduceLT,Nat.reduceLeDiff,Nat.reduceAdd,Nat.reduceSub,Nat.reduceMul,Int.reduceAdd,Int.reduceSub,Int.reduceMul,Int.reduceNeg,Int.reduceLE,Int.reduceLT,Int.reduceEq,Int.reduceToNat])
              refine loopI fun L4 hL4 => ?_
              (try simp only [ex,reduceIte,reduceCtorEq,Nat.reduceEqDiff,Nat.reduceLT,Nat.reduceLeDiff,Nat.reduceAdd,Nat.reduceSub,Nat.reduceMul,Int.reduceAdd,Int.reduceSub,Int.reduceMul,Int.reduceNeg,Int.reduceLE,Int.reduceLT,Int.reduceEq,Int.reduceToNat]) <;> repeat ((with_reducible refine Req.intro ?_ ?_); (first | omega | (simp <;> omega)); try simp only [ex,reduceIte,reduceCtorEq,Nat.reduceEqDiff,Nat.reduceLT,Nat.reduceLeDiff,Nat.reduceAdd,Nat.reduceSub,Nat.reduceMul,Int.reduceAdd,Int.reduceSub,Int.reduceMul,Int.reduceNeg,Int.reduceLE,Int.reduceLT,Int.reduceEq,Int.reduceToNat])
              have key4 : ∀ (q p : Nat) (s : PSt), p + q = l.length → pOut a b m (i + 1) (pIn a b i (l.drop p) s) = pRes a b → L4 (L13_4 (.sl o 1 (a.map .str)) (.sl o' 1 (b.map .str)) (.ptr 0 3 0 0) (.hm 1) (.hm 2) (.ptr 3 3 0 0) (.int .i64 s.rr) (.bool s.found) (.int .i64 i) (.int .i64 a.length) (.int .i64 i) (.sl false 1 (plsV l)) (.int .i64 l.length) (.int .i64 p) 0 [.int .i64 0, .int .i64 0, .int .i64 0] 3 [.int .i64 s.best.A, .int .i64 s.best.B, .int .i64 s.best.N] [(1, .map (emb cm)), (2, .map (emb pm))] 4) := by
                intro q
                induction q with
                | zero =>
                  intro p s hp' hs
                  apply hL4
                  simp only [L13_4, l13_4, ex,reduceIte,reduceCtorEq,Nat.reduceEqDiff,Nat.reduceLT,Nat.reduceLeDiff,Nat.reduceAdd,Nat.reduceSub,Nat.reduceMul,Int.reduceAdd,Int.reduceSub,Int.reduceMul,Int.reduceNeg,Int.reduceLE,Int.reduceLT,Int.reduceEq,Int.reduceToNat]
                  have h1 : decide ((p : Int) < (l.length : Int)) = false := by simp; omega
                  rw [List.drop_of_length_le (by omega)] at hs
                  (try simp only [h1, ex,reduceIte,reduceCtorEq,Nat.reduceEqDiff,Nat.reduceLT,Nat.reduceLeDiff,Nat.reduceAdd,Nat.reduceSub,Nat.reduceMul,Int.reduceAdd,Int.reduceSub,Int.reduceMul,Int.reduceNeg,Int.reduceLE,Int.reduceLT,Int.reduceEq,Int.reduceToNat]) <;> repeat ((with_reducible refine Req.intro ?_ ?_); (first | omega | (simp <;> omega)); try simp only [h1, ex,reduceIte,reduceCtorEq,Nat.reduceEqDiff,Nat.reduceLT,Nat.reduceLeDiff,Nat.reduceAdd,Nat.reduceSub,Nat.reduceMul,Int.reduceAdd,Int.reduceSub,Int.reduceMul,Int.reduceNeg,Int.reduceLE,Int.reduceLT,Int.reduceEq,Int.reduceToNat])
                  exact ih (i + 1) s (by omega) hs
                | succ q ih2 =>
                  intro p s hp' hs
                  apply hL4
                  simp only [L13_4, l13_4, ex,reduceIte,reduceCtorEq,Nat.reduceEqDiff,Nat.reduceLT,Nat.reduceLeDiff,Nat.reduceAdd,Nat.reduceSub,Nat.reduceMul,Int.reduceAdd,Int.reduceSub,Int.reduceMul,Int.reduceNeg,Int.reduceLE,Int.reduceLT,Int.reduceEq,Int.reduceToNat]
                  have h1 : decide ((p : Int) < (l.length : Int)) = true := by simp; omega
                  have g2 : (plsV l)[p]? = some (.int .i64 (l[p]'(by omega) : Nat)) := by
                    unfold plsV; rw [List.getElem?_map, List.getElem?_eq_getElem (by omega)]; rfl
                  rw [List.drop_eq_getElem_cons (by omega), pIn] at hs
                  have hj := hplt _ (List.getElem_mem (show p < l.length by omega))
                  generalize hjx : l[p]'(by omega) = j at *
                  obtain ⟨hj1, hj2⟩ := hj
                  (try simp only [h1, g2, ex,reduceIte,reduceCtorEq,Nat.reduceEqDiff,Nat.reduceLT,Nat.reduceLeDiff,Nat.reduceAdd,Nat.reduceSub,Nat.reduceMul,Int.reduceAdd,Int.reduceSub,Int.reduceMul,Int.reduceNeg,Int.reduceLE,Int.reduceLT,Int.reduceEq,Int.reduceToNat]) <;> repeat ((with_reducible refine Req.intro ?_ ?_); (first | omega | (simp <;> omega)); try simp only [h1, g2, ex,reduceIte,reduceCtorEq,Nat.reduceEqDiff,Nat.reduceLT,Nat.reduceLeDiff,Nat.reduceAdd,Nat.reduceSub,Nat.reduceMul,Int.reduceAdd,Int.reduceSub,Int.reduceMul,Int.reduceNeg,Int.reduceLE,Int.reduceLT,Int.reduceEq,Int.reduceToNat])
                  have hm' : ∀ s, gt cm s = cv (a.count s) := fun s => by rw [hm s, List.take_length]
                  rcases Classical.em (skips a b i j = true) with hsk | hsk
                  · have hsk' := hsk
                    simp only [skips, Bool.and_eq_true, decide_eq_true_iff] at hsk'
                    obtain ⟨⟨s1, s2⟩, s3⟩ := hsk'
                    have h1 : decide ((i : Int) > 0) = true := by simp; omega
                    have h2 : decide ((j : Int) > 0) = true := by simp; omega
                    have t1 : ((i : Int) - 1).toNat = i - 1 := by omega
                    have t2 : ((j : Int) - 1).toNat = j - 1 := by omega
                    have e1 : a[i - 1]? = some (a[i - 1]'(by omega)) := List.getElem?_eq_getElem _
                    have e2 : b[j - 1]? = some (b[j - 1]'(by omega)) := List.getElem?_eq_getElem _
                    have e3 : decide (a[i - 1]'(by omega) = b[j - 1]'(by omega)) = true := by
                      rw [e1, e2] at s3
                      simpa using s3
                    have hst : pstep a b i j s = s := by unfold pstep; rw [if_pos hsk]
                    rw [hst] at hs
                    (try simp only [h1, h2, t1, t2, e1, e2, e3, ex,reduceIte,reduceCtorEq,Nat.reduceEqDiff,Nat.reduceLT,Nat.reduceLeDiff,Nat.reduceAdd,Nat.reduceSub,Nat.reduceMul,Int.reduceAdd,Int.reduceSub,Int.reduceMul,Int.reduceNeg,Int.reduceLE,Int.reduceLT,Int.reduceEq,Int.reduceToNat]) <;> repeat ((with_reducible refine Req.intro ?_ ?_); (first | omega | (simp <;> omega)); try simp only [h1, h2, t1, t2, e1, e2, e3, ex,reduceIte,reduceCtorEq,Nat.reduceEqDiff,Nat.reduceLT,Nat.reduceLeDiff,Nat.reduceAdd,Nat.reduceSub,Nat.reduceMul,Int.reduceAdd,Int.reduceSub,Int.reduceMul,Int.reduceNeg,Int.reduceLE,Int.reduceLT,Int.reduceEq,Int.reduceToNat])
                    exact ih2 (p + 1) s (by omega) hs
                  · have hcases : i = 0 ∨ (0 < i ∧ j = 0) ∨ (0 < i ∧ 0 < j ∧ a[i - 1]? ≠ b[j - 1]?) := by
                      simp only [skips, Bool.and_eq_true, decide_eq_true_iff, not_and] at hsk
                      rcases Nat.eq_zero_or_pos i with c | c
                      · exact .inl c
                      · rcases Nat.eq_zero_or_pos j with c2 | c2
                        · exact .inr (.inl ⟨c, c2⟩)
                        · exact .inr (.inr ⟨c, c2, hsk ⟨c, c2⟩⟩)
                    have hle := lcp_le (a.drop i) (b.drop j)
                    simp only [List.length_drop] at hle
                    have hst : pstep a b i j s = if ptake a b i j s = true then ⟨pnew a b i j, rare 65 a (pnew a b i j), true⟩ else s := by unfold pstep; rw [if_neg hsk]
                    apply shareL
                    · intro share
                      rcases hcases with c | ⟨c, c'⟩ | ⟨c, c', c''⟩
                      · have h1 : decide ((i : Int) > 0) = false := by simp; omega
                        (try simp only [h1, ex,reduceIte,reduceCtorEq,Nat.reduceEqDiff,Nat.reduceLT,Nat.reduceLeDiff,Nat.reduceAdd,Nat.reduceSub,Nat.reduceMul,Int.reduceAdd,Int.reduceSub,Int.reduceMul,Int.reduceNeg,Int.reduceLE,Int.reduceLT,Int.reduceEq,Int.reduceToNat]) <;> repeat ((with_reducible refine Req.intro ?_ ?_); (first | omega | (simp <;> omega)); try simp only [h1, ex,reduceIte,reduceCtorEq,Nat.reduceEqDiff,Nat.reduceLT,Nat.reduceLeDiff,Nat.reduceAdd,Nat.reduceSub,Nat.reduceMul,Int.reduceAdd,Int.reduceSub,Int.reduceMul,Int.reduceNeg,Int.reduceLE,Int.reduceLT,Int.reduceEq,Int.reduceToNat])
                        exact share.out
                      · have h1 : decide ((i : Int) > 0) = true := by simp; omega
                        have h2 : decide ((j : Int) > 0) = false := by simp; omega
                        (try simp only [h1, h2, ex,reduceIte,reduceCtorEq,Nat.reduceEqDiff,Nat.reduceLT,Nat.reduceLeDiff,Nat.reduceAdd,Nat.reduceSub,Nat.reduceMul,Int.reduceAdd,Int.reduceSub,Int.reduceMul,Int.reduceNeg,Int.reduceLE,Int.reduceLT,Int.reduceEq,Int.reduceToNat]) <;> repeat ((with_reducible refine Req.intro ?_ ?_); (first | omega | (simp <;> omega)); try simp only [h1, h2, ex,reduceIte,reduceCtorEq,Nat.reduceEqDiff,Nat.reduceLT,Nat.reduceLeDiff,Nat.reduceAdd,Nat.reduceSub,Nat.reduceMul,Int.reduceAdd,Int.reduceSub,Int.reduceMul,Int.reduceNeg,Int.reduceLE,Int.reduceLT,Int.reduceEq,Int.reduceToNat])
                        exact share.out
                      · have h1 : decide ((i : Int) > 0) = true := by simp; omega
                        have h2 : decide ((j : Int) > 0) = true := by simp; omega
                        have t1 : ((i : Int) - 1).toNat = i - 1 := by omega
                        have t2 : ((j : Int) - 1).toNat = j - 1 := by omega
                        have e1 : a[i - 1]? = some (a[i - 1]'(by omega)) := List.getElem?_eq_getElem _
                        have e2 : b[j - 1]? = some (b[j - 1]'(by omega)) := List.getElem?_eq_getElem _
                        have e3 : decide (a[i - 1]'(by omega) = b[j - 1]'(by omega)) = false := by
                          rw [e1, e2] at c''
                          simpa using c''
                        (try simp only [h1, h2, t1, t2, e1, e2, e3, ex,reduceIte,reduceCtorEq,Nat.reduceEqDiff,Nat.reduceLT,Nat.reduceLeDiff,Nat.reduceAdd,Nat.reduceSub,Nat.reduceMul,Int.reduceAdd,Int.reduceSub,Int.reduceMul,Int.reduceNeg,Int.reduceLE,Int.reduceLT,Int.reduceEq,Int.reduceToNat]) <;> repeat ((with_reducible refine Req.intro ?_ ?_); (first | omega | (simp <;> omega)); try simp only [h1, h2, t1, t2, e1, e2, e3, ex,reduceIte,reduceCtorEq,Nat.reduceEqDiff,Nat.reduceLT,Nat.reduceLeDiff,Nat.reduceAdd,Nat.reduceSub,Nat.reduceMul,Int.reduceAdd,Int.reduceSub,Int.reduceMul,Int.reduceNeg,Int.reduceLE,Int.reduceLT,Int.reduceEq,Int.reduceToNat])
                        exact share.out
                    · refine loopI fun L3 hL3 => ?_
                      (try simp only [ex,reduceIte,reduceCtorEq,Nat.reduceEqDiff,Nat.reduceLT,Nat.reduceLeDiff,Nat.reduceAdd,Nat.reduceSub,Nat.reduceMul,Int.reduceAdd,Int.reduceSub,Int.reduceMul,Int.reduceNeg,Int.reduceLE,Int.reduceLT,Int.reduceEq,Int.reduceToNat]) <;> repeat ((with_reducible refine Req.intro ?_ ?_); (first | omega | (simp <;> omega)); try simp only [ex,reduceIte,reduceCtorEq,Nat.reduceEqDiff,Nat.reduceLT,Nat.reduceLeDiff,Nat.reduceAdd,Nat.reduceSub,Nat.reduceMul,Int.reduceAdd,Int.reduceSub,Int.reduceMul,Int.reduceNeg,Int.reduceLE,Int.reduceLT,Int.reduceEq,Int.reduceToNat])
                      have key3 : ∀ q n : Nat, n + q = lcp (a.drop i) (b.drop j) → L3 (L13_3 (.sl o 1 (a.map .str)) (.sl o' 1 (b.map .str)) (.ptr 0 3 0 0) (.hm 1) (.hm 2) (.ptr 3 3 0 0) (.int .i64 s.rr) (.bool s.found) (.int .i64 i) (.int .i64 j) (.int .i64 n) (.int .i64 (rare 65 a ⟨i, j, n⟩ : Nat)) (.int .i64 a.length) (.int .i64 i) (.sl false 1 (plsV l)) (.int .i64 l.length) (.int .i64 p) 0 [.int .i64 0, .int .i64 0, .int .i64 0] 3 [.int .i64 s.best.A, .int .i64 s.best.B, .int .i64 s.best.N] [(1, .map (emb cm)), (2, .map (emb pm))] 4) := by
                        intro q
                        induction q with
                        | succ q ih3 =>
                          intro n hn
                          apply hL3
                          simp only [L13_3, l13_3, ex,reduceIte,reduceCtorEq,Nat.reduceEqDiff,Nat.reduceLT,Nat.reduceLeDiff,Nat.reduceAdd,Nat.reduceSub,Nat.reduceMul,Int.reduceAdd,Int.reduceSub,Int.reduceMul,Int.reduceNeg,Int.reduceLE,Int.reduceLT,Int.reduceEq,Int.reduceToNat]
                          obtain ⟨t, u1, u2⟩ := lcp_lt (a.drop i) (b.drop j) n (by omega)
                          have hr2 : rare 65 a ⟨i, j, n + 1⟩ = min (rare 65 a ⟨i, j, n⟩) (a.count t) := by
                            rw [rare_pre, rare_pre, List.take_add_one, u1]
                            simp [List.foldl_append]
                          have hrl := rare_le 65 a ⟨i, j, n⟩
                          rw [drop_get] at u1 u2
                          have c1 := (List.getElem?_eq_some_iff.1 u1).1
                          have c2 := (List.getElem?_eq_some_iff.1 u2).1
                          have v1 : decide ((i : Int) + (n : Int) < (a.length : Int)) = true := by simp; omega
                          have v2 : decide ((j : Int) + (n : Int) < (b.length : Int)) = true := by simp; omega
                          (try simp only [ex,reduceIte,reduceCtorEq,Nat.reduceEqDiff,Nat.reduceLT,Nat.reduceLeDiff,Nat.reduceAdd,Nat.reduceSub,Nat.reduceMul,Int.reduceAdd,Int.reduceSub,Int.reduceMul,Int.reduceNeg,Int.reduceLE,Int.reduceLT,Int.reduceEq,Int.reduceToNat]) <;> repeat ((with_reducible refine Req.intro ?_ ?_); (first | omega | (simp <;> omega)); try simp only [ex,reduceIte,reduceCtorEq,Nat.reduceEqDiff,Nat.reduceLT,Nat.reduceLeDiff,Nat.reduceAdd,Nat.reduceSub,Nat.reduceMul,Int.reduceAdd,Int.reduceSub,Int.reduceMul,Int.reduceNeg,Int.reduceLE,Int.reduceLT,Int.reduceEq,Int.reduceToNat])
                          (try simp only [v1, v2, u1, u2, ex,reduceIte,reduceCtorEq,Nat.reduceEqDiff,Nat.reduceLT,Nat.reduceLeDiff,Nat.reduceAdd,Nat.reduceSub,Nat.reduceMul,Int.reduceAdd,Int.reduceSub,Int.reduceMul,Int.reduceNeg,Int.reduceLE,Int.reduceLT,Int.reduceEq,Int.reduceToNat]) <;> repeat ((with_reducible refine Req.intro ?_ ?_); (first | omega | (simp <;> omega)); try simp only [v1, v2, u1, u2, ex,reduceIte,reduceCtorEq,Nat.reduceEqDiff,Nat.reduceLT,Nat.reduceLeDiff,Nat.reduceAdd,Nat.reduceSub,Nat.reduceMul,Int.reduceAdd,Int.reduceSub,Int.reduceMul,Int.reduceNeg,Int.reduceLE,Int.reduceLT,Int.reduceEq,Int.reduceToNat])
                          (try simp only [u1, findK_str, outQ_gt, hm' t, cv_getD, ifmin, ex,reduceIte,reduceCtorEq,Nat.reduceEqDiff,Nat.reduceLT,Nat.reduceLeDiff,Nat.reduceAdd,Nat.reduceSub,Nat.reduceMul,Int.reduceAdd,Int.reduceSub,Int.reduceMul,Int.reduceNeg,Int.reduceLE,Int.reduceLT,Int.reduceEq,Int.reduceToNat]) <;> repeat ((with_reducible refine Req.intro ?_ ?_); (first | omega | (simp <;> omega)); try simp only [u1, findK_str, outQ_gt, hm' t, cv_getD, ifmin, ex,reduceIte,reduceCtorEq,Nat.reduceEqDiff,Nat.reduceLT,Nat.reduceLeDiff,Nat.reduceAdd,Nat.reduceSub,Nat.reduceMul,Int.reduceAdd,Int.reduceSub,Int.reduceMul,Int.reduceNeg,Int.reduceLE,Int.reduceLT,Int.reduceEq,Int.reduceToNat])
                          have h9 := ih3 (n + 1) (by omega)
                          rw [hr2] at h9
                          exact h9
                        | zero =>
                          intro n hn
                          apply hL3
                          simp only [L13_3, l13_3, ex,reduceIte,reduceCtorEq,Nat.reduceEqDiff,Nat.reduceLT,Nat.reduceLeDiff,Nat.reduceAdd,Nat.reduceSub,Nat.reduceMul,Int.reduceAdd,Int.reduceSub,Int.reduceMul,Int.reduceNeg,Int.reduceLE,Int.reduceLT,Int.reduceEq,Int.reduceToNat]
                          rw [Nat.add_zero] at hn
                          have hend : ∀ s t, a[i + n]? = some s → b[j + n]? = some t → s ≠ t := fun s t h1 h2 => by
                            rw [← drop_get] at h1 h2
                            rw [hn] at h1 h2
                            exact lcp_end _ _ s t h1 h2
                          have hpn : pnew a b i j = ⟨i, j, n⟩ := by unfold pnew; rw [hn]
                          have hpt : ptake a b i j s = (decide (rare 65 a ⟨i, j, n⟩ < s.rr) || (s.found && decide (rare 65 a ⟨i, j, n⟩ = s.rr) && decide (s.best.N < n))) := by unfold ptake; rw [hpn]
                          rw [hpt, hpn] at hst
                          rw [hst] at hs
                          generalize hR : rare 65 a ⟨i, j, n⟩ = R at *
                          have v12 : (decide ((i : Int) + (n : Int) < (a.length : Int)) = false) ∨ (decide ((i : Int) + (n : Int) < (a.length : Int)) = true ∧ decide ((j : Int) + (n : Int) < (b.length : Int)) = false) ∨ (decide ((i : Int) + (n : Int) < (a.length : Int)) = true ∧ decide ((j : Int) + (n : Int) < (b.length : Int)) = true ∧ ∃ x y, a[i + n]? = some x ∧ b[j + n]? = some y ∧ decide (x = y) = false) := by
                            rcases Classical.em (i + n < a.length) with c1 | c1
                            · rcases Classical.em (j + n < b.length) with c2 | c2
                              · exact .inr (.inr ⟨by simp; omega, by simp; omega, _, _, List.getElem?_eq_getElem c1, List.getElem?_eq_getElem c2, by simpa using hend _ _ (List.getElem?_eq_getElem c1) (List.getElem?_eq_getElem c2)⟩)
                              · exact .inr (.inl ⟨by simp; omega, by simp; omega⟩)
                            · exact .inl (by simp; omega)
                          (try simp only [ex,reduceIte,reduceCtorEq,Nat.reduceEqDiff,Nat.reduceLT,Nat.reduceLeDiff,Nat.reduceAdd,Nat.reduceSub,Nat.reduceMul,Int.reduceAdd,Int.reduceSub,Int.reduceMul,Int.reduceNeg,Int.reduceLE,Int.reduceLT,Int.reduceEq,Int.reduceToNat]) <;> repeat ((with_reducible refine Req.intro ?_ ?_); (first | omega | (simp <;> omega)); try simp only [ex,reduceIte,reduceCtorEq,Nat.reduceEqDiff,Nat.reduceLT,Nat.reduceLeDiff,Nat.reduceAdd,Nat.reduceSub,Nat.reduceMul,Int.reduceAdd,Int.reduceSub,Int.reduceMul,Int.reduceNeg,Int.reduceLE,Int.reduceLT,Int.reduceEq,Int.reduceToNat])
                          apply shareL
                          · intro share
                            rcases v12 with v1 | ⟨v1, v2⟩ | ⟨v1, v2, x1, y1, u1, u2, u3⟩
                            · (try simp only [v1, ex,reduceIte,reduceCtorEq,Nat.reduceEqDiff,Nat.reduceLT,Nat.reduceLeDiff,Nat.reduceAdd,Nat.reduceSub,Nat.reduceMul,Int.reduceAdd,Int.reduceSub,Int.reduceMul,Int.reduceNeg,Int.reduceLE,Int.reduceLT,Int.reduceEq,Int.reduceToNat]) <;> repeat ((with_reducible refine Req.intro ?_ ?_); (first | omega | (simp <;> omega)); try simp only [v1, ex,reduceIte,reduceCtorEq,Nat.reduceEqDiff,Nat.reduceLT,Nat.reduceLeDiff,Nat.reduceAdd,Nat.reduceSub,Nat.reduceMul,Int.reduceAdd,Int.reduceSub,Int.reduceMul,Int.reduceNeg,Int.reduceLE,Int.reduceLT,Int.reduceEq,Int.reduceToNat])
                              exact share.out
                            · (try simp only [v1, v2, ex,reduceIte,reduceCtorEq,Nat.reduceEqDiff,Nat.reduceLT,Nat.reduceLeDiff,Nat.reduceAdd,Nat.reduceSub,Nat.reduceMul,Int.reduceAdd,Int.reduceSub,Int.reduceMul,Int.reduceNeg,Int.reduceLE,Int.reduceLT,Int.reduceEq,Int.reduceToNat]) <;> repeat ((with_reducible refine Req.intro ?_ ?_); (first | omega | (simp <;> omega)); try simp only [v1, v2, ex,reduceIte,reduceCtorEq,Nat.reduceEqDiff,Nat.reduceLT,Nat.reduceLeDiff,Nat.reduceAdd,Nat.reduceSub,Nat.reduceMul,Int.reduceAdd,Int.reduceSub,Int.reduceMul,Int.reduceNeg,Int.reduceLE,Int.reduceLT,Int.reduceEq,Int.reduceToNat])
                              exact share.out
                            · (try simp only [v1, v2, u1, u2, u3, ex,reduceIte,reduceCtorEq,Nat.reduceEqDiff,Nat.reduceLT,Nat.reduceLeDiff,Nat.reduceAdd,Nat.reduceSub,Nat.reduceMul,Int.reduceAdd,Int.reduceSub,Int.reduceMul,Int.reduceNeg,Int.reduceLE,Int.reduceLT,Int.reduceEq,Int.reduceToNat]) <;> repeat ((with_reducible refine Req.intro ?_ ?_); (first | omega | (simp <;> omega)); try simp only [v1, v2, u1, u2, u3, ex,reduceIte,reduceCtorEq,Nat.reduceEqDiff,Nat.reduceLT,Nat.reduceLeDiff,Nat.reduceAdd,Nat.reduceSub,Nat.reduceMul,Int.reduceAdd,Int.reduceSub,Int.reduceMul,Int.reduceNeg,Int.reduceLE,Int.reduceLT,Int.reduceEq,Int.reduceToNat])
                              exact share.out
                          · rcases Classical.em (R < s.rr) with w1 | w1
                            · have k1 : decide ((R : Int) < (s.rr : Int)) = true := by simp; omega
                              rw [if_pos (by simp [w1])] at hs
                              (try simp only [k1, ex,reduceIte,reduceCtorEq,Nat.reduceEqDiff,Nat.reduceLT,Nat.reduceLeDiff,Nat.reduceAdd,Nat.reduceSub,Nat.reduceMul,Int.reduceAdd,Int.reduceSub,Int.reduceMul,Int.reduceNeg,Int.reduceLE,Int.reduceLT,Int.reduceEq,Int.reduceToNat]) <;> repeat ((with_reducible refine Req.intro ?_ ?_); (first | omega | (simp <;> omega)); try simp only [k1, ex,reduceIte,reduceCtorEq,Nat.reduceEqDiff,Nat.reduceLT,Nat.reduceLeDiff,Nat.reduceAdd,Nat.reduceSub,Nat.reduceMul,Int.reduceAdd,Int.reduceSub,Int.reduceMul,Int.reduceNeg,Int.reduceLE,Int.reduceLT,Int.reduceEq,Int.reduceToNat])
                              exact ih2 (p + 1) ⟨⟨i, j, n⟩, R, true⟩ (by omega) hs
                            · have k1 : decide ((R : Int) < (s.rr : Int)) = false := by simp; omega
                              cases hf : s.found with
                              | false =>
                                rw [if_neg (by simp [w1, hf])] at hs
                                (try simp only [k1, ex,reduceIte,reduceCtorEq,Nat.reduceEqDiff,Nat.reduceLT,Nat.reduceLeDiff,Nat.reduceAdd,Nat.reduceSub,Nat.reduceMul,Int.reduceAdd,Int.reduceSub,Int.reduceMul,Int.reduceNeg,Int.reduceLE,Int.reduceLT,Int.reduceEq,Int.reduceToNat]) <;> repeat ((with_reducible refine Req.intro ?_ ?_); (first | omega | (simp <;> omega)); try simp only [k1, ex,reduceIte,reduceCtorEq,Nat.reduceEqDiff,Nat.reduceLT,Nat.reduceLeDiff,Nat.reduceAdd,Nat.reduceSub,Nat.reduceMul,Int.reduceAdd,Int.reduceSub,Int.reduceMul,Int.reduceNeg,Int.reduceLE,Int.reduceLT,Int.reduceEq,Int.reduceToNat])
                                have h9 := ih2 (p + 1) s (by omega) hs
                                rw [hf] at h9
                                exact h9
                              | true =>
                                rcases Classical.em (R = s.rr) with w2 | w2
                                · have k2 : decide ((R : Int) = (s.rr : Int)) = true := by simp; omega
                                  rcases Classical.em (s.best.N < n) with w3 | w3
                                  · have k3 : decide ((n : Int) > (s.best.N : Int)) = true := by simp; omega
                                    rw [if_pos (by simp [w2, hf, w3])] at hs
                                    (try simp only [k1, k2, k3, ex,reduceIte,reduceCtorEq,Nat.reduceEqDiff,Nat.reduceLT,Nat.reduceLeDiff,Nat.reduceAdd,Nat.reduceSub,Nat.reduceMul,Int.reduceAdd,Int.reduceSub,Int.reduceMul,Int.reduceNeg,Int.reduceLE,Int.reduceLT,Int.reduceEq,Int.reduceToNat]) <;> repeat ((with_reducible refine Req.intro ?_ ?_); (first | omega | (simp <;> omega)); try simp only [k1, k2, k3, ex,reduceIte,reduceCtorEq,Nat.reduceEqDiff,Nat.reduceLT,Nat.reduceLeDiff,Nat.reduceAdd,Nat.reduceSub,Nat.reduceMul,Int.reduceAdd,Int.reduceSub,Int.reduceMul,Int.reduceNeg,Int.reduceLE,Int.reduceLT,Int.reduceEq,Int.reduceToNat])
                                    exact ih2 (p + 1) ⟨⟨i, j, n⟩, R, true⟩ (by omega) hs
                                  · have k3 : decide ((n : Int) > (s.best.N : Int)) = false := by simp; omega
                                    rw [if_neg (by simp [w2, hf]; omega)] at hs
                                    (try simp only [k1, k2, k3, ex,reduceIte,reduceCtorEq,Nat.reduceEqDiff,Nat.reduceLT,Nat.reduceLeDiff,Nat.reduceAdd,Nat.reduceSub,Nat.reduceMul,Int.reduceAdd,Int.reduceSub,Int.reduceMul,Int.reduceNeg,Int.reduceLE,Int.reduceLT,Int.reduceEq,Int.reduceToNat]) <;> repeat ((with_reducible refine Req.intro ?_ ?_); (first | omega | (simp <;> omega)); try simp only [k1, k2, k3, ex,reduceIte,reduceCtorEq,Nat.reduceEqDiff,Nat.reduceLT,Nat.reduceLeDiff,Nat.reduceAdd,Nat.reduceSub,Nat.reduceMul,Int.reduceAdd,Int.reduceSub,Int.reduceMul,Int.reduceNeg,Int.reduceLE,Int.reduceLT,Int.reduceEq,Int.reduceToNat])
                                    have h9 := ih2 (p + 1) s (by omega) hs
                                    rw [hf] at h9
                                    exact h9
                                · have k2 : decide ((R : Int) = (s.rr : Int)) = false := by simp; omega
                                  rw [if_neg (by simp [w1, w2, hf])] at hs
                                  (try simp only [k1, k2, ex,reduceIte,reduceCtorEq,Nat.reduceEqDiff,Nat.reduceLT,Nat.reduceLeDiff,Nat.reduceAdd,Nat.reduceSub,Nat.reduceMul,Int.reduceAdd,Int.reduceSub,Int.reduceMul,Int.reduceNeg,Int.reduceLE,Int.reduceLT,Int.reduceEq,Int.reduceToNat]) <;> repeat ((with_reducible refine Req.intro ?_ ?_); (first | omega | (simp <;> omega)); try simp only [k1, k2, ex,reduceIte,reduceCtorEq,Nat.reduceEqDiff,Nat.reduceLT,Nat.reduceLeDiff,Nat.reduceAdd,Nat.reduceSub,Nat.reduceMul,Int.reduceAdd,Int.reduceSub,Int.reduceMul,Int.reduceNeg,Int.reduceLE,Int.reduceLT,Int.reduceEq,Int.reduceToNat])
                                  have h9 := ih2 (p + 1) s (by omega) hs
                                  rw [hf] at h9
                                  exact h9
                      exact key3 (lcp (a.drop i) (b.drop j)) 0 (Nat.zero_add _)
              exact key4 l.length 0 s (Nat.zero_add _) hs
          exact key5 a.length 0 ⟨⟨0, 0, 0⟩, 65, false⟩ (Nat.zero_add _) rfl
      exact key2 b.length 0 [] (Nat.zero_add _) (fun s => by simp [gt, pv, pls])
  exact key1 a.length 0 [] (Nat.zero_add _) (fun s => by simp [gt, cv])
end Go.Proofs.Ytmmcepbcjlopdaa.E.Hs

/- Fixed examples of chapter 9: run outright. Conditions: none. -/
namespace Go.Proofs.Ytmmcepbcjlopdaa.E.Hs
set_option linter.unusedVariables false
theorem lives_ev : evF tab 1000 9 0 [] [] 0 = some (.bool true, [], 2) := by kernel_rfl
theorem lives_spec : Run tab 9 0 [] [] 0 (fun r _ _ => r = .bool true) :=
  (run_ev 1000 lives_ev).weaken fun r h n hh => hh.1
end Go.Proofs.Ytmmcepbcjlopdaa.E.Hs

/- The law HistoRuns: its function returns true. Conditions: none. -/
namespace Go.Proofs.Ytmmcepbcjlopdaa.E.Hs
set_option linter.unusedVariables false
set_option linter.unusedSimpArgs false
set_option maxHeartbeats 20000000

theorem small_len' {a : List S} (h : small a = true) : a.length ≤ 100 := by
  simp only [small, Bool.and_eq_true, decide_eq_true_iff] at h
  exact h.1
theorem same_spec (o o' : Bool) (a b : List S) (ha : a.length ≤ 17592186044416) (hb : b.length ≤ 17592186044416) (he : a = b) :
    Run tab 17 0 [.sl o 1 (a.map .str), .sl o' 1 (b.map .str)] [] 0 (fun r _ _ => r = .bool true) := by
  subst he
  refine enter (F := f17) rfl rfl ?_
  simp only [f17, ex,reduceIte,reduceCtorEq,Nat.reduceEqDiff,Nat.reduceLT,Nat.reduceLeDiff,Nat.reduceAdd,Nat.reduceSub,Nat.reduceMul,Int.reduceAdd,Int.reduceSub,Int.reduceMul,Int.reduceNeg,Int.reduceLE,Int.reduceLT,Int.reduceEq,Int.reduceToNat]
  (try simp only [ex,reduceIte,reduceCtorEq,Nat.reduceEqDiff,Nat.reduceLT,Nat.reduceLeDiff,Nat.reduceAdd,Nat.reduceSub,Nat.reduceMul,Int.reduceAdd,Int.reduceSub,Int.reduceMul,Int.reduceNeg,Int.reduceLE,Int.reduceLT,Int.reduceEq,Int.reduceToNat]) <;> repeat ((with_reducible refine Req.intro ?_ ?_); (first | omega | (simp <;> omega)); try simp only [ex,reduceIte,reduceCtorEq,Nat.reduceEqDiff,Nat.reduceLT,Nat.reduceLeDiff,Nat.reduceAdd,Nat.reduceSub,Nat.reduceMul,Int.reduceAdd,Int.reduceSub,Int.reduceMul,Int.reduceNeg,Int.reduceLE,Int.reduceLT,Int.reduceEq,Int.reduceToNat])
  refine loopI fun L hL => ?_
  (try simp only [ex,reduceIte,reduceCtorEq,Nat.reduceEqDiff,Nat.reduceLT,Nat.reduceLeDiff,Nat.reduceAdd,Nat.reduceSub,Nat.reduceMul,Int.reduceAdd,Int.reduceSub,Int.reduceMul,Int.reduceNeg,Int.reduceLE,Int.reduceLT,Int.reduceEq,Int.reduceToNat]) <;> repeat ((with_reducible refine Req.intro ?_ ?_); (first | omega | (simp <;> omega)); try simp only [ex,reduceIte,reduceCtorEq,Nat.reduceEqDiff,Nat.reduceLT,Nat.reduceLeDiff,Nat.reduceAdd,Nat.reduceSub,Nat.reduceMul,Int.reduceAdd,Int.reduceSub,Int.reduceMul,Int.reduceNeg,Int.reduceLE,Int.reduceLT,Int.reduceEq,Int.reduceToNat])
  have key : ∀ m i : Nat, i + m = a.length → L (L17_1 (.sl o 1 (a.map .str)) (.sl o' 1 (a.map .str)) (.int .i64 i) [] 0) := by
    intro m
    induction m with
    | zero =>
      intro i hi
      apply hL
      simp only [L17_1, l17_1, ex,reduceIte,reduceCtorEq,Nat.reduceEqDiff,Nat.reduceLT,Nat.reduceLeDiff,Nat.reduceAdd,Nat.reduceSub,Nat.reduceMul,Int.reduceAdd,Int.reduceSub,Int.reduceMul,Int.reduceNeg,Int.reduceLE,Int.reduceLT,Int.reduceEq,Int.reduceToNat]
      have h1 : decide ((i : Int) < (a.length : Int)) = false := by simp; omega
      (try simp only [h1, ex,reduceIte,reduceCtorEq,Nat.reduceEqDiff,Nat.reduceLT,Nat.reduceLeDiff,Nat.reduceAdd,Nat.reduceSub,Nat.reduceMul,Int.reduceAdd,Int.reduceSub,Int.reduceMul,Int.reduceNeg,Int.reduceLE,Int.reduceLT,Int.reduceEq,Int.reduceToNat]) <;> repeat ((with_reducible refine Req.intro ?_ ?_); (first | omega | (simp <;> omega)); try simp only [h1, ex,reduceIte,reduceCtorEq,Nat.reduceEqDiff,Nat.reduceLT,Nat.reduceLeDiff,Nat.reduceAdd,Nat.reduceSub,Nat.reduceMul,Int.reduceAdd,Int.reduceSub,Int.reduceMul,Int.reduceNeg,Int.reduceLE,Int.reduceLT,Int.reduceEq,Int.reduceToNat])
    | succ m ih =>
      intro i hi
      apply hL
      simp only [L17_1, l17_1, ex,reduceIte,reduceCtorEq,Nat.reduceEqDiff,Nat.reduceLT,Nat.reduceLeDiff,Nat.reduceAdd,Nat.reduceSub,Nat.reduceMul,Int.reduceAdd,Int.reduceSub,Int.reduceMul,Int.reduceNeg,Int.reduceLE,Int.reduceLT,Int.reduceEq,Int.reduceToNat]
      have h1 : decide ((i : Int) < (a.length : Int)) = true := by simp; omega
      have g1 : a[i]? = some (a[i]'(by omega)) := List.getElem?_eq_getElem _
      generalize hx : a[i]'(by omega) = x at g1
      (try simp only [h1, g1, ex,reduceIte,reduceCtorEq,Nat.reduceEqDiff,Nat.reduceLT,Nat.reduceLeDiff,Nat.reduceAdd,Nat.reduceSub,Nat.reduceMul,Int.reduceAdd,Int.reduceSub,Int.reduceMul,Int.reduceNeg,Int.reduceLE,Int.reduceLT,Int.reduceEq,Int.reduceToNat]) <;> repeat ((with_reducible refine Req.intro ?_ ?_); (first | omega | (simp <;> omega)); try simp only [h1, g1, ex,reduceIte,reduceCtorEq,Nat.reduceEqDiff,Nat.reduceLT,Nat.reduceLeDiff,Nat.reduceAdd,Nat.reduceSub,Nat.reduceMul,Int.reduceAdd,Int.reduceSub,Int.reduceMul,Int.reduceNeg,Int.reduceLE,Int.reduceLT,Int.reduceEq,Int.reduceToNat])
      exact ih (i + 1) (by omega)
  exact key a.length 0 (Nat.zero_add _)

/-- No run: no common line is rare enough. -/
theorem no_run {a b : List S} (h : ∀ y, ¬ Cand a b y) (i : Nat) (x : S) (hx : a[i]? = some x) : ¬ (0 < b.count x ∧ a.count x ≤ 64) := by
  rintro ⟨h1, h2⟩
  have hm : x ∈ b := List.count_pos_iff.1 h1
  obtain ⟨k, hk⟩ := List.getElem?_of_mem hm
  obtain ⟨s1, s2, s3⟩ := runOf_start (a := a) (b := b) (i := i) (k := k) ⟨x, hx, hk⟩
  refine h (runOf a b i k) ⟨s1, s2, ?_⟩
  obtain ⟨c1, c2, c3⟩ := back_le a b i k
  -- the line stands in the run
  have hl : ∀ i k, (∃ s, a[i]? = some s ∧ b[k]? = some s) → i < (back a b i k).1 + lcp (a.drop (back a b i k).1) (b.drop (back a b i k).2) := by
    intro i
    induction i with
    | zero => intro k h; simp only [back]; have := lcp_pos h; omega
    | succ i ih =>
      intro k h
      cases k with
      | zero =>
        have := lcp_pos h
        show i + 1 < i + 1 + lcp (a.drop (i + 1)) (b.drop 0)
        omega
      | succ k =>
        simp only [back]
        split
        · rename_i e
          obtain ⟨s, e1, e2⟩ := h
          have hi : i < a.length := by have := (List.getElem?_eq_some_iff.1 e1).1; omega
          have h5 := ih k ⟨a[i], List.getElem?_eq_getElem hi, by rw [← e]; exact List.getElem?_eq_getElem hi⟩
          have hb := back_le a b i k
          -- the next line belongs to it
          refine Nat.lt_of_le_of_ne (by omega) fun e9 => ?_
          have hd : i + 1 - (back a b i k).1 = lcp (a.drop (back a b i k).1) (b.drop (back a b i k).2) := by omega
          have g1 : (a.drop (back a b i k).1)[lcp (a.drop (back a b i k).1) (b.drop (back a b i k).2)]? = some s := by
            rw [← hd, drop_get, ← e1]; congr 1; omega
          have g2 : (b.drop (back a b i k).2)[lcp (a.drop (back a b i k).1) (b.drop (back a b i k).2)]? = some s := by
            rw [← hd, drop_get, ← e2]; congr 1; omega
          exact lcp_end _ _ _ _ g1 g2 rfl
        · have := lcp_pos h
          show i + 1 < i + 1 + lcp (a.drop (i + 1)) (b.drop (k + 1))
          omega
  have hlt := hl i k ⟨x, hx, hk⟩
  have hmem : x ∈ (a.drop (runOf a b i k).A).take (runOf a b i k).N := by
    have : ((a.drop (runOf a b i k).A).take (runOf a b i k).N)[i - (runOf a b i k).A]? = some x := by
      rw [List.getElem?_take_of_lt (by simp only [runOf]; omega), drop_get, ← hx]
      congr 1
      simp only [runOf]; omega
    exact List.mem_of_getElem? this
  have := (fold_min_le a.count _ 65).2 x hmem
  unfold rare
  omega
/-- A run that may be the anchor: the lists are the same along it, and no longer. -/
theorem run_same {a b : List S} {r : Rn} (h : Cand a b r) : (a.take (r.A + r.N)).drop r.A = (b.take (r.B + r.N)).drop r.B ∧ (0 < r.A → 0 < r.B → a[r.A - 1]? ≠ b[r.B - 1]?) ∧ ∀ x y, a[r.A + r.N]? = some x → b[r.B + r.N]? = some y → x ≠ y := by
  obtain ⟨f1, f2, f3⟩ := cand_fits h
  refine ⟨?_, fun h1 h2 e => h.1.2 ⟨h1, h2, e⟩, fun x y h1 h2 => ?_⟩
  · apply List.ext_getElem?
    intro n
    rw [List.getElem?_drop, List.getElem?_drop]
    rcases Nat.lt_or_ge n r.N with c | c
    · rw [List.getElem?_take_of_lt (by omega), List.getElem?_take_of_lt (by omega)]
      obtain ⟨s, e1, e2⟩ := lcp_lt (a.drop r.A) (b.drop r.B) n (by rw [← h.2.1]; exact c)
      rw [drop_get] at e1 e2
      rw [e1, e2]
    · rw [List.getElem?_eq_none (by simp; omega), List.getElem?_eq_none (by simp; omega)]
  · rw [← drop_get, h.2.1] at h1 h2
    exact lcp_end _ _ x y h1 h2

set_option maxRecDepth 100000 in
theorem law_HistoRuns (a b : List S) (ha : a.length ≤ 17592186044416) (hb : b.length ≤ 17592186044416) : Run tab 5 0 [.sl false 1 (a.map .str), .sl false 1 (b.map .str)] [] 0 (fun r _ _ => r = .bool true) := by
  refine enter (F := f5) rfl rfl ?_
  simp only [f5, ex,reduceIte,reduceCtorEq,Nat.reduceEqDiff,Nat.reduceLT,Nat.reduceLeDiff,Nat.reduceAdd,Nat.reduceSub,Nat.reduceMul,Int.reduceAdd,Int.reduceSub,Int.reduceMul,Int.reduceNeg,Int.reduceLE,Int.reduceLT,Int.reduceEq,Int.reduceToNat]
  (try simp only [ex,reduceIte,reduceCtorEq,Nat.reduceEqDiff,Nat.reduceLT,Nat.reduceLeDiff,Nat.reduceAdd,Nat.reduceSub,Nat.reduceMul,Int.reduceAdd,Int.reduceSub,Int.reduceMul,Int.reduceNeg,Int.reduceLE,Int.reduceLT,Int.reduceEq,Int.reduceToNat]) <;> repeat ((with_reducible refine Req.intro ?_ ?_); (first | omega | (simp <;> omega)); try simp only [ex,reduceIte,reduceCtorEq,Nat.reduceEqDiff,Nat.reduceLT,Nat.reduceLeDiff,Nat.reduceAdd,Nat.reduceSub,Nat.reduceMul,Int.reduceAdd,Int.reduceSub,Int.reduceMul,Int.reduceNeg,Int.reduceLE,Int.reduceLT,Int.reduceEq,Int.reduceToNat])
  refine CallA.eq rfl (small_spec _ a ha) rfl ?_
  (try simp only [ex,reduceIte,reduceCtorEq,Nat.reduceEqDiff,Nat.reduceLT,Nat.reduceLeDiff,Nat.reduceAdd,Nat.reduceSub,Nat.reduceMul,Int.reduceAdd,Int.reduceSub,Int.reduceMul,Int.reduceNeg,Int.reduceLE,Int.reduceLT,Int.reduceEq,Int.reduceToNat]) <;> repeat ((with_reducible refine Req.intro ?_ ?_); (first | omega | (simp <;> omega)); try simp only [ex,reduceIte,reduceCtorEq,Nat.reduceEqDiff,Nat.reduceLT,Nat.reduceLeDiff,Nat.reduceAdd,Nat.reduceSub,Nat.reduceMul,Int.reduceAdd,Int.reduceSub,Int.reduceMul,Int.reduceNeg,Int.reduceLE,Int.reduceLT,Int.reduceEq,Int.reduceToNat])
  apply shareL
  · intro share
    refine ifB.intro (fun h1 => ?_) (fun h1 => ?_)
    · (try simp only [h1, ex,reduceIte,reduceCtorEq,Nat.reduceEqDiff,Nat.reduceLT,Nat.reduceLeDiff,Nat.reduceAdd,Nat.reduceSub,Nat.reduceMul,Int.reduceAdd,Int.reduceSub,Int.reduceMul,Int.reduceNeg,Int.reduceLE,Int.reduceLT,Int.reduceEq,Int.reduceToNat]) <;> repeat ((with_reducible refine Req.intro ?_ ?_); (first | omega | (simp <;> omega)); try simp only [h1, ex,reduceIte,reduceCtorEq,Nat.reduceEqDiff,Nat.reduceLT,Nat.reduceLeDiff,Nat.reduceAdd,Nat.reduceSub,Nat.reduceMul,Int.reduceAdd,Int.reduceSub,Int.reduceMul,Int.reduceNeg,Int.reduceLE,Int.reduceLT,Int.reduceEq,Int.reduceToNat])
      refine CallA.eq rfl (small_spec _ b hb) rfl ?_
      (try simp only [h1, ex,reduceIte,reduceCtorEq,Nat.reduceEqDiff,Nat.reduceLT,Nat.reduceLeDiff,Nat.reduceAdd,Nat.reduceSub,Nat.reduceMul,Int.reduceAdd,Int.reduceSub,Int.reduceMul,Int.reduceNeg,Int.reduceLE,Int.reduceLT,Int.reduceEq,Int.reduceToNat]) <;> repeat ((with_reducible refine Req.intro ?_ ?_); (first | omega | (simp <;> omega)); try simp only [h1, ex,reduceIte,reduceCtorEq,Nat.reduceEqDiff,Nat.reduceLT,Nat.reduceLeDiff,Nat.reduceAdd,Nat.reduceSub,Nat.reduceMul,Int.reduceAdd,Int.reduceSub,Int.reduceMul,Int.reduceNeg,Int.reduceLE,Int.reduceLT,Int.reduceEq,Int.reduceToNat])
      refine ifB.intro (fun h2 => ?_) (fun h2 => ?_)
      · (try simp only [ex,reduceIte,reduceCtorEq,Nat.reduceEqDiff,Nat.reduceLT,Nat.reduceLeDiff,Nat.reduceAdd,Nat.reduceSub,Nat.reduceMul,Int.reduceAdd,Int.reduceSub,Int.reduceMul,Int.reduceNeg,Int.reduceLE,Int.reduceLT,Int.reduceEq,Int.reduceToNat]) <;> repeat ((with_reducible refine Req.intro ?_ ?_); (first | omega | (simp <;> omega)); try simp only [ex,reduceIte,reduceCtorEq,Nat.reduceEqDiff,Nat.reduceLT,Nat.reduceLeDiff,Nat.reduceAdd,Nat.reduceSub,Nat.reduceMul,Int.reduceAdd,Int.reduceSub,Int.reduceMul,Int.reduceNeg,Int.reduceLE,Int.reduceLT,Int.reduceEq,Int.reduceToNat])
        have l1 := small_len' h1
        have l2 := small_len' h2
        have hp := panchor_is a b
        refine CallA.eq rfl (anchor_spec _ _ a b (by omega) (by omega)) rfl ?_
        generalize pRes a b = P at hp ⊢
        cases hf : P.found with
        | false =>
          rw [hf] at hp
          have hz := hp.2 rfl
          have hno : ∀ y, ¬ Cand a b y := hp.1
          rw [hz]
          (try simp only [ex,reduceIte,reduceCtorEq,Nat.reduceEqDiff,Nat.reduceLT,Nat.reduceLeDiff,Nat.reduceAdd,Nat.reduceSub,Nat.reduceMul,Int.reduceAdd,Int.reduceSub,Int.reduceMul,Int.reduceNeg,Int.reduceLE,Int.reduceLT,Int.reduceEq,Int.reduceToNat]) <;> repeat ((with_reducible refine Req.intro ?_ ?_); (first | omega | (simp <;> omega)); try simp only [ex,reduceIte,reduceCtorEq,Nat.reduceEqDiff,Nat.reduceLT,Nat.reduceLeDiff,Nat.reduceAdd,Nat.reduceSub,Nat.reduceMul,Int.reduceAdd,Int.reduceSub,Int.reduceMul,Int.reduceNeg,Int.reduceLE,Int.reduceLT,Int.reduceEq,Int.reduceToNat])
          refine loopI fun L hL => ?_
          (try simp only [ex,reduceIte,reduceCtorEq,Nat.reduceEqDiff,Nat.reduceLT,Nat.reduceLeDiff,Nat.reduceAdd,Nat.reduceSub,Nat.reduceMul,Int.reduceAdd,Int.reduceSub,Int.reduceMul,Int.reduceNeg,Int.reduceLE,Int.reduceLT,Int.reduceEq,Int.reduceToNat]) <;> repeat ((with_reducible refine Req.intro ?_ ?_); (first | omega | (simp <;> omega)); try simp only [ex,reduceIte,reduceCtorEq,Nat.reduceEqDiff,Nat.reduceLT,Nat.reduceLeDiff,Nat.reduceAdd,Nat.reduceSub,Nat.reduceMul,Int.reduceAdd,Int.reduceSub,Int.reduceMul,Int.reduceNeg,Int.reduceLE,Int.reduceLT,Int.reduceEq,Int.reduceToNat])
          have key : ∀ m i : Nat, i + m = a.length → L (L5_1 (.sl false 1 (a.map .str)) (.sl false 1 (b.map .str)) (.ptr 0 3 0 0) (.int .i64 i) 0 [.int .i64 0, .int .i64 0, .int .i64 0] [] 1) := by
            intro m
            induction m with
            | zero =>
              intro i hi
              apply hL
              simp only [L5_1, l5_1, ex,reduceIte,reduceCtorEq,Nat.reduceEqDiff,Nat.reduceLT,Nat.reduceLeDiff,Nat.reduceAdd,Nat.reduceSub,Nat.reduceMul,Int.reduceAdd,Int.reduceSub,Int.reduceMul,Int.reduceNeg,Int.reduceLE,Int.reduceLT,Int.reduceEq,Int.reduceToNat]
              have h1 : decide ((i : Int) < (a.length : Int)) = false := by simp; omega
              (try simp only [h1, ex,reduceIte,reduceCtorEq,Nat.reduceEqDiff,Nat.reduceLT,Nat.reduceLeDiff,Nat.reduceAdd,Nat.reduceSub,Nat.reduceMul,Int.reduceAdd,Int.reduceSub,Int.reduceMul,Int.reduceNeg,Int.reduceLE,Int.reduceLT,Int.reduceEq,Int.reduceToNat]) <;> repeat ((with_reducible refine Req.intro ?_ ?_); (first | omega | (simp <;> omega)); try simp only [h1, ex,reduceIte,reduceCtorEq,Nat.reduceEqDiff,Nat.reduceLT,Nat.reduceLeDiff,Nat.reduceAdd,Nat.reduceSub,Nat.reduceMul,Int.reduceAdd,Int.reduceSub,Int.reduceMul,Int.reduceNeg,Int.reduceLE,Int.reduceLT,Int.reduceEq,Int.reduceToNat])
              refine CallA.eq rfl lives_spec rfl ?_
              (try simp only [ex,reduceIte,reduceCtorEq,Nat.reduceEqDiff,Nat.reduceLT,Nat.reduceLeDiff,Nat.reduceAdd,Nat.reduceSub,Nat.reduceMul,Int.reduceAdd,Int.reduceSub,Int.reduceMul,Int.reduceNeg,Int.reduceLE,Int.reduceLT,Int.reduceEq,Int.reduceToNat]) <;> repeat ((with_reducible refine Req.intro ?_ ?_); (first | omega | (simp <;> omega)); try simp only [ex,reduceIte,reduceCtorEq,Nat.reduceEqDiff,Nat.reduceLT,Nat.reduceLeDiff,Nat.reduceAdd,Nat.reduceSub,Nat.reduceMul,Int.reduceAdd,Int.reduceSub,Int.reduceMul,Int.reduceNeg,Int.reduceLE,Int.reduceLT,Int.reduceEq,Int.reduceToNat])
            | succ m ih =>
              intro i hi
              apply hL
              simp only [L5_1, l5_1, ex,reduceIte,reduceCtorEq,Nat.reduceEqDiff,Nat.reduceLT,Nat.reduceLeDiff,Nat.reduceAdd,Nat.reduceSub,Nat.reduceMul,Int.reduceAdd,Int.reduceSub,Int.reduceMul,Int.reduceNeg,Int.reduceLE,Int.reduceLT,Int.reduceEq,Int.reduceToNat]
              have h1 : decide ((i : Int) < (a.length : Int)) = true := by simp; omega
              have g1 : a[i]? = some (a[i]'(by omega)) := List.getElem?_eq_getElem _
              generalize hx : a[i]'(by omega) = x at g1
              have hnr := no_run hno i x g1
              (try simp only [h1, g1, ex,reduceIte,reduceCtorEq,Nat.reduceEqDiff,Nat.reduceLT,Nat.reduceLeDiff,Nat.reduceAdd,Nat.reduceSub,Nat.reduceMul,Int.reduceAdd,Int.reduceSub,Int.reduceMul,Int.reduceNeg,Int.reduceLE,Int.reduceLT,Int.reduceEq,Int.reduceToNat]) <;> repeat ((with_reducible refine Req.intro ?_ ?_); (first | omega | (simp <;> omega)); try simp only [h1, g1, ex,reduceIte,reduceCtorEq,Nat.reduceEqDiff,Nat.reduceLT,Nat.reduceLeDiff,Nat.reduceAdd,Nat.reduceSub,Nat.reduceMul,Int.reduceAdd,Int.reduceSub,Int.reduceMul,Int.reduceNeg,Int.reduceLE,Int.reduceLT,Int.reduceEq,Int.reduceToNat])
              refine CallA.eq rfl (count_spec _ b x hb) rfl ?_
              (try simp only [ex,reduceIte,reduceCtorEq,Nat.reduceEqDiff,Nat.reduceLT,Nat.reduceLeDiff,Nat.reduceAdd,Nat.reduceSub,Nat.reduceMul,Int.reduceAdd,Int.reduceSub,Int.reduceMul,Int.reduceNeg,Int.reduceLE,Int.reduceLT,Int.reduceEq,Int.reduceToNat]) <;> repeat ((with_reducible refine Req.intro ?_ ?_); (first | omega | (simp <;> omega)); try simp only [ex,reduceIte,reduceCtorEq,Nat.reduceEqDiff,Nat.reduceLT,Nat.reduceLeDiff,Nat.reduceAdd,Nat.reduceSub,Nat.reduceMul,Int.reduceAdd,Int.reduceSub,Int.reduceMul,Int.reduceNeg,Int.reduceLE,Int.reduceLT,Int.reduceEq,Int.reduceToNat])
              refine ifB.intro (fun h3 => ?_) (fun h3 => ?_)
              · (try simp only [h3, g1, ex,reduceIte,reduceCtorEq,Nat.reduceEqDiff,Nat.reduceLT,Nat.reduceLeDiff,Nat.reduceAdd,Nat.reduceSub,Nat.reduceMul,Int.reduceAdd,Int.reduceSub,Int.reduceMul,Int.reduceNeg,Int.reduceLE,Int.reduceLT,Int.reduceEq,Int.reduceToNat]) <;> repeat ((with_reducible refine Req.intro ?_ ?_); (first | omega | (simp <;> omega)); try simp only [h3, g1, ex,reduceIte,reduceCtorEq,Nat.reduceEqDiff,Nat.reduceLT,Nat.reduceLeDiff,Nat.reduceAdd,Nat.reduceSub,Nat.reduceMul,Int.reduceAdd,Int.reduceSub,Int.reduceMul,Int.reduceNeg,Int.reduceLE,Int.reduceLT,Int.reduceEq,Int.reduceToNat])
                refine CallA.eq rfl (count_spec _ a x ha) rfl ?_
                have h4 : decide (((a.count x : Nat) : Int) ≤ 64) = false := by
                  have := of_decide_eq_true h3
                  simp; omega
                (try simp only [h3, h4, ex,reduceIte,reduceCtorEq,Nat.reduceEqDiff,Nat.reduceLT,Nat.reduceLeDiff,Nat.reduceAdd,Nat.reduceSub,Nat.reduceMul,Int.reduceAdd,Int.reduceSub,Int.reduceMul,Int.reduceNeg,Int.reduceLE,Int.reduceLT,Int.reduceEq,Int.reduceToNat]) <;> repeat ((with_reducible refine Req.intro ?_ ?_); (first | omega | (simp <;> omega)); try simp only [h3, h4, ex,reduceIte,reduceCtorEq,Nat.reduceEqDiff,Nat.reduceLT,Nat.reduceLeDiff,Nat.reduceAdd,Nat.reduceSub,Nat.reduceMul,Int.reduceAdd,Int.reduceSub,Int.reduceMul,Int.reduceNeg,Int.reduceLE,Int.reduceLT,Int.reduceEq,Int.reduceToNat])
                exact ih (i + 1) (by omega)
              · (try simp only [h3, ex,reduceIte,reduceCtorEq,Nat.reduceEqDiff,Nat.reduceLT,Nat.reduceLeDiff,Nat.reduceAdd,Nat.reduceSub,Nat.reduceMul,Int.reduceAdd,Int.reduceSub,Int.reduceMul,Int.reduceNeg,Int.reduceLE,Int.reduceLT,Int.reduceEq,Int.reduceToNat]) <;> repeat ((with_reducible refine Req.intro ?_ ?_); (first | omega | (simp <;> omega)); try simp only [h3, ex,reduceIte,reduceCtorEq,Nat.reduceEqDiff,Nat.reduceLT,Nat.reduceLeDiff,Nat.reduceAdd,Nat.reduceSub,Nat.reduceMul,Int.reduceAdd,Int.reduceSub,Int.reduceMul,Int.reduceNeg,Int.reduceLE,Int.reduceLT,Int.reduceEq,Int.reduceToNat])
                exact ih (i + 1) (by omega)
          exact key a.length 0 (Nat.zero_add _)
        | true =>
          rw [hf] at hp
          have hc : Cand a b P.best := hp.1.1
          generalize P.best = r at hc ⊢
          have ff := cand_fits hc
          have f1 := ff.1
          have f2 := ff.2.1
          have f3 := ff.2.2
          have qq := run_same hc
          have q1 := qq.1
          have q2 := qq.2.1
          have q3 := qq.2.2
          clear ff qq
          have u1 : decide ((r.N : Int) < 1) = false := by simp; omega
          have u2 : decide ((r.A : Int) < 0) = false := by simp
          have u3 : decide ((r.B : Int) < 0) = false := by simp
          have u4 : decide ((r.A : Int) + (r.N : Int) > (a.length : Int)) = false := by simp; omega
          have u5 : decide ((r.B : Int) + (r.N : Int) > (b.length : Int)) = false := by simp; omega
          have t1 : ((r.A : Int) + (r.N : Int)).toNat = r.A + r.N := by omega
          have t2 : ((r.B : Int) + (r.N : Int)).toNat = r.B + r.N := by omega
          have s1 : ((r.A : Int) - 1).toNat = r.A - 1 := by omega
          have s2 : ((r.B : Int) - 1).toNat = r.B - 1 := by omega
          have v : (decide ((r.A : Int) > 0) = false) ∨ (decide ((r.A : Int) > 0) = true ∧ decide ((r.B : Int) > 0) = false) ∨ (decide ((r.A : Int) > 0) = true ∧ decide ((r.B : Int) > 0) = true ∧ 0 < r.A ∧ 0 < r.B ∧ ∃ x y, a[r.A - 1]? = some x ∧ b[r.B - 1]? = some y ∧ decide (x = y) = false) := by
            rcases Nat.eq_zero_or_pos r.A with c | c
            · exact .inl (by simp; omega)
            · rcases Nat.eq_zero_or_pos r.B with c2 | c2
              · exact .inr (.inl ⟨by simp; omega, by simp; omega⟩)
              · have e1 : a[r.A - 1]? = some (a[r.A - 1]'(by omega)) := List.getElem?_eq_getElem _
                have e2 : b[r.B - 1]? = some (b[r.B - 1]'(by omega)) := List.getElem?_eq_getElem _
                refine .inr (.inr ⟨by simp; omega, by simp; omega, c, c2, _, _, e1, e2, ?_⟩)
                have h9 := q2 c c2
                rw [e1, e2] at h9
                simpa using h9
          have w : (decide ((r.A : Int) + (r.N : Int) < (a.length : Int)) = false) ∨ (decide ((r.A : Int) + (r.N : Int) < (a.length : Int)) = true ∧ decide ((r.B : Int) + (r.N : Int) < (b.length : Int)) = false) ∨ (decide ((r.A : Int) + (r.N : Int) < (a.length : Int)) = true ∧ decide ((r.B : Int) + (r.N : Int) < (b.length : Int)) = true ∧ ∃ x y, a[r.A + r.N]? = some x ∧ b[r.B + r.N]? = some y ∧ decide (x = y) = false) := by
            rcases Nat.lt_or_ge (r.A + r.N) a.length with c | c
            · rcases Nat.lt_or_ge (r.B + r.N) b.length with c2 | c2
              · have e1 : a[r.A + r.N]? = some (a[r.A + r.N]'(by omega)) := List.getElem?_eq_getElem _
                have e2 : b[r.B + r.N]? = some (b[r.B + r.N]'(by omega)) := List.getElem?_eq_getElem _
                exact .inr (.inr ⟨by simp; omega, by simp; omega, _, _, e1, e2, by simpa using q3 _ _ e1 e2⟩)
              · exact .inr (.inl ⟨by simp; omega, by simp; omega⟩)
            · exact .inl (by simp; omega)
          (try simp only [u1, u2, u3, u4, u5, t1, t2, ex,reduceIte,reduceCtorEq,Nat.reduceEqDiff,Nat.reduceLT,Nat.reduceLeDiff,Nat.reduceAdd,Nat.reduceSub,Nat.reduceMul,Int.reduceAdd,Int.reduceSub,Int.reduceMul,Int.reduceNeg,Int.reduceLE,Int.reduceLT,Int.reduceEq,Int.reduceToNat]) <;> repeat ((with_reducible refine Req.intro ?_ ?_); (first | omega | (simp <;> omega)); try simp only [u1, u2, u3, u4, u5, t1, t2, ex,reduceIte,reduceCtorEq,Nat.reduceEqDiff,Nat.reduceLT,Nat.reduceLeDiff,Nat.reduceAdd,Nat.reduceSub,Nat.reduceMul,Int.reduceAdd,Int.reduceSub,Int.reduceMul,Int.reduceNeg,Int.reduceLE,Int.reduceLT,Int.reduceEq,Int.reduceToNat])
          refine CallD.eq rfl (same_spec _ _ _ _ (by simp; omega) (by simp; omega) q1) rfl ?_
          (try simp only [ex,reduceIte,reduceCtorEq,Nat.reduceEqDiff,Nat.reduceLT,Nat.reduceLeDiff,Nat.reduceAdd,Nat.reduceSub,Nat.reduceMul,Int.reduceAdd,Int.reduceSub,Int.reduceMul,Int.reduceNeg,Int.reduceLE,Int.reduceLT,Int.reduceEq,Int.reduceToNat]) <;> repeat ((with_reducible refine Req.intro ?_ ?_); (first | omega | (simp <;> omega)); try simp only [ex,reduceIte,reduceCtorEq,Nat.reduceEqDiff,Nat.reduceLT,Nat.reduceLeDiff,Nat.reduceAdd,Nat.reduceSub,Nat.reduceMul,Int.reduceAdd,Int.reduceSub,Int.reduceMul,Int.reduceNeg,Int.reduceLE,Int.reduceLT,Int.reduceEq,Int.reduceToNat])
          rcases v with v1 | ⟨v1, v2⟩ | ⟨v1, v2, v3, v4, x1, y1, e1, e2, e3⟩
          case' inl => (try simp only [v1, t1, t2, ex,reduceIte,reduceCtorEq,Nat.reduceEqDiff,Nat.reduceLT,Nat.reduceLeDiff,Nat.reduceAdd,Nat.reduceSub,Nat.reduceMul,Int.reduceAdd,Int.reduceSub,Int.reduceMul,Int.reduceNeg,Int.reduceLE,Int.reduceLT,Int.reduceEq,Int.reduceToNat]) <;> repeat ((with_reducible refine Req.intro ?_ ?_); (first | omega | (simp <;> omega)); try simp only [v1, t1, t2, ex,reduceIte,reduceCtorEq,Nat.reduceEqDiff,Nat.reduceLT,Nat.reduceLeDiff,Nat.reduceAdd,Nat.reduceSub,Nat.reduceMul,Int.reduceAdd,Int.reduceSub,Int.reduceMul,Int.reduceNeg,Int.reduceLE,Int.reduceLT,Int.reduceEq,Int.reduceToNat])
          case' inr.inl => (try simp only [v1, v2, t1, t2, ex,reduceIte,reduceCtorEq,Nat.reduceEqDiff,Nat.reduceLT,Nat.reduceLeDiff,Nat.reduceAdd,Nat.reduceSub,Nat.reduceMul,Int.reduceAdd,Int.reduceSub,Int.reduceMul,Int.reduceNeg,Int.reduceLE,Int.reduceLT,Int.reduceEq,Int.reduceToNat]) <;> repeat ((with_reducible refine Req.intro ?_ ?_); (first | omega | (simp <;> omega)); try simp only [v1, v2, t1, t2, ex,reduceIte,reduceCtorEq,Nat.reduceEqDiff,Nat.reduceLT,Nat.reduceLeDiff,Nat.reduceAdd,Nat.reduceSub,Nat.reduceMul,Int.reduceAdd,Int.reduceSub,Int.reduceMul,Int.reduceNeg,Int.reduceLE,Int.reduceLT,Int.reduceEq,Int.reduceToNat])
          case' inr.inr => (try simp only [v1, v2, s1, s2, e1, e2, e3, t1, t2, ex,reduceIte,reduceCtorEq,Nat.reduceEqDiff,Nat.reduceLT,Nat.reduceLeDiff,Nat.reduceAdd,Nat.reduceSub,Nat.reduceMul,Int.reduceAdd,Int.reduceSub,Int.reduceMul,Int.reduceNeg,Int.reduceLE,Int.reduceLT,Int.reduceEq,Int.reduceToNat]) <;> repeat ((with_reducible refine Req.intro ?_ ?_); (first | omega | (simp <;> omega)); try simp only [v1, v2, s1, s2, e1, e2, e3, t1, t2, ex,reduceIte,reduceCtorEq,Nat.reduceEqDiff,Nat.reduceLT,Nat.reduceLeDiff,Nat.reduceAdd,Nat.reduceSub,Nat.reduceMul,Int.reduceAdd,Int.reduceSub,Int.reduceMul,Int.reduceNeg,Int.reduceLE,Int.reduceLT,Int.reduceEq,Int.reduceToNat])
          all_goals
            rcases w with w1 | ⟨w1, w2⟩ | ⟨w1, w2, x2, y2, g1, g2, g3⟩
            · (try simp only [w1, ex,reduceIte,reduceCtorEq,Nat.reduceEqDiff,Nat.reduceLT,Nat.reduceLeDiff,Nat.reduceAdd,Nat.reduceSub,Nat.reduceMul,Int.reduceAdd,Int.reduceSub,Int.reduceMul,Int.reduceNeg,Int.reduceLE,Int.reduceLT,Int.reduceEq,Int.reduceToNat]) <;> repeat ((with_reducible refine Req.intro ?_ ?_); (first | omega | (simp <;> omega)); try simp only [w1, ex,reduceIte,reduceCtorEq,Nat.reduceEqDiff,Nat.reduceLT,Nat.reduceLeDiff,Nat.reduceAdd,Nat.reduceSub,Nat.reduceMul,Int.reduceAdd,Int.reduceSub,Int.reduceMul,Int.reduceNeg,Int.reduceLE,Int.reduceLT,Int.reduceEq,Int.reduceToNat])
              refine CallA.eq rfl lives_spec rfl ?_
              (try simp only [ex,reduceIte,reduceCtorEq,Nat.reduceEqDiff,Nat.reduceLT,Nat.reduceLeDiff,Nat.reduceAdd,Nat.reduceSub,Nat.reduceMul,Int.reduceAdd,Int.reduceSub,Int.reduceMul,Int.reduceNeg,Int.reduceLE,Int.reduceLT,Int.reduceEq,Int.reduceToNat]) <;> repeat ((with_reducible refine Req.intro ?_ ?_); (first | omega | (simp <;> omega)); try simp only [ex,reduceIte,reduceCtorEq,Nat.reduceEqDiff,Nat.reduceLT,Nat.reduceLeDiff,Nat.reduceAdd,Nat.reduceSub,Nat.reduceMul,Int.reduceAdd,Int.reduceSub,Int.reduceMul,Int.reduceNeg,Int.reduceLE,Int.reduceLT,Int.reduceEq,Int.reduceToNat])
            · (try simp only [w1, w2, ex,reduceIte,reduceCtorEq,Nat.reduceEqDiff,Nat.reduceLT,Nat.reduceLeDiff,Nat.reduceAdd,Nat.reduceSub,Nat.reduceMul,Int.reduceAdd,Int.reduceSub,Int.reduceMul,Int.reduceNeg,Int.reduceLE,Int.reduceLT,Int.reduceEq,Int.reduceToNat]) <;> repeat ((with_reducible refine Req.intro ?_ ?_); (first | omega | (simp <;> omega)); try simp only [w1, w2, ex,reduceIte,reduceCtorEq,Nat.reduceEqDiff,Nat.reduceLT,Nat.reduceLeDiff,Nat.reduceAdd,Nat.reduceSub,Nat.reduceMul,Int.reduceAdd,Int.reduceSub,Int.reduceMul,Int.reduceNeg,Int.reduceLE,Int.reduceLT,Int.reduceEq,Int.reduceToNat])
              refine CallA.eq rfl lives_spec rfl ?_
              (try simp only [ex,reduceIte,reduceCtorEq,Nat.reduceEqDiff,Nat.reduceLT,Nat.reduceLeDiff,Nat.reduceAdd,Nat.reduceSub,Nat.reduceMul,Int.reduceAdd,Int.reduceSub,Int.reduceMul,Int.reduceNeg,Int.reduceLE,Int.reduceLT,Int.reduceEq,Int.reduceToNat]) <;> repeat ((with_reducible refine Req.intro ?_ ?_); (first | omega | (simp <;> omega)); try simp only [ex,reduceIte,reduceCtorEq,Nat.reduceEqDiff,Nat.reduceLT,Nat.reduceLeDiff,Nat.reduceAdd,Nat.reduceSub,Nat.reduceMul,Int.reduceAdd,Int.reduceSub,Int.reduceMul,Int.reduceNeg,Int.reduceLE,Int.reduceLT,Int.reduceEq,Int.reduceToNat])
            · (try simp only [w1, w2, t1, t2, g1, g2, g3, ex,reduceIte,reduceCtorEq,Nat.reduceEqDiff,Nat.reduceLT,Nat.reduceLeDiff,Nat.reduceAdd,Nat.reduceSub,Nat.reduceMul,Int.reduceAdd,Int.reduceSub,Int.reduceMul,Int.reduceNeg,Int.reduceLE,Int.reduceLT,Int.reduceEq,Int.reduceToNat]) <;> repeat ((with_reducible refine Req.intro ?_ ?_); (first | omega | (simp <;> omega)); try simp only [w1, w2, t1, t2, g1, g2, g3, ex,reduceIte,reduceCtorEq,Nat.reduceEqDiff,Nat.reduceLT,Nat.reduceLeDiff,Nat.reduceAdd,Nat.reduceSub,Nat.reduceMul,Int.reduceAdd,Int.reduceSub,Int.reduceMul,Int.reduceNeg,Int.reduceLE,Int.reduceLT,Int.reduceEq,Int.reduceToNat])
              refine CallA.eq rfl lives_spec rfl ?_
              (try simp only [ex,reduceIte,reduceCtorEq,Nat.reduceEqDiff,Nat.reduceLT,Nat.reduceLeDiff,Nat.reduceAdd,Nat.reduceSub,Nat.reduceMul,Int.reduceAdd,Int.reduceSub,Int.reduceMul,Int.reduceNeg,Int.reduceLE,Int.reduceLT,Int.reduceEq,Int.reduceToNat]) <;> repeat ((with_reducible refine Req.intro ?_ ?_); (first | omega | (simp <;> omega)); try simp only [ex,reduceIte,reduceCtorEq,Nat.reduceEqDiff,Nat.reduceLT,Nat.reduceLeDiff,Nat.reduceAdd,Nat.reduceSub,Nat.reduceMul,Int.reduceAdd,Int.reduceSub,Int.reduceMul,Int.reduceNeg,Int.reduceLE,Int.reduceLT,Int.reduceEq,Int.reduceToNat])
      · (try simp only [ex,reduceIte,reduceCtorEq,Nat.reduceEqDiff,Nat.reduceLT,Nat.reduceLeDiff,Nat.reduceAdd,Nat.reduceSub,Nat.reduceMul,Int.reduceAdd,Int.reduceSub,Int.reduceMul,Int.reduceNeg,Int.reduceLE,Int.reduceLT,Int.reduceEq,Int.reduceToNat]) <;> repeat ((with_reducible refine Req.intro ?_ ?_); (first | omega | (simp <;> omega)); try simp only [ex,reduceIte,reduceCtorEq,Nat.reduceEqDiff,Nat.reduceLT,Nat.reduceLeDiff,Nat.reduceAdd,Nat.reduceSub,Nat.reduceMul,Int.reduceAdd,Int.reduceSub,Int.reduceMul,Int.reduceNeg,Int.reduceLE,Int.reduceLT,Int.reduceEq,Int.reduceToNat])
        exact share.out
    · (try simp only [h1, ex,reduceIte,reduceCtorEq,Nat.reduceEqDiff,Nat.reduceLT,Nat.reduceLeDiff,Nat.reduceAdd,Nat.reduceSub,Nat.reduceMul,Int.reduceAdd,Int.reduceSub,Int.reduceMul,Int.reduceNeg,Int.reduceLE,Int.reduceLT,Int.reduceEq,Int.reduceToNat]) <;> repeat ((with_reducible refine Req.intro ?_ ?_); (first | omega | (simp <;> omega)); try simp only [h1, ex,reduceIte,reduceCtorEq,Nat.reduceEqDiff,Nat.reduceLT,Nat.reduceLeDiff,Nat.reduceAdd,Nat.reduceSub,Nat.reduceMul,Int.reduceAdd,Int.reduceSub,Int.reduceMul,Int.reduceNeg,Int.reduceLE,Int.reduceLT,Int.reduceEq,Int.reduceToNat])
      exact share.out
  · refine CallA.eq rfl lives_spec rfl ?_
    (try simp only [ex,reduceIte,reduceCtorEq,Nat.reduceEqDiff,Nat.reduceLT,Nat.reduceLeDiff,Nat.reduceAdd,Nat.reduceSub,Nat.reduceMul,Int.reduceAdd,Int.reduceSub,Int.reduceMul,Int.reduceNeg,Int.reduceLE,Int.reduceLT,Int.reduceEq,Int.reduceToNat]) <;> repeat ((with_reducible refine Req.intro ?_ ?_); (first | omega | (simp <;> omega)); try simp only [ex,reduceIte,reduceCtorEq,Nat.reduceEqDiff,Nat.reduceLT,Nat.reduceLeDiff,Nat.reduceAdd,Nat.reduceSub,Nat.reduceMul,Int.reduceAdd,Int.reduceSub,Int.reduceMul,Int.reduceNeg,Int.reduceLE,Int.reduceLT,Int.reduceEq,Int.reduceToNat])
end Go.Proofs.Ytmmcepbcjlopdaa.E.Hs
