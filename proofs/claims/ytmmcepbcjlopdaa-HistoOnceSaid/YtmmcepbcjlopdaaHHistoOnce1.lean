/- What the functions compute, and the law HistoOnce in plain lists: part 1. Conditions: none. -/
import Derived.Test.YtmmcepbcjlopdaaFHistoOnce
/- Runs that two lists have in common: what the anchor is. Plain lists. Conditions: none. -/
namespace Go.Proofs.Ytmmcepbcjlopdaa.E.Hs
set_option linter.unusedVariables false

abbrev S := List UInt8
/-- How long two lists are the same at their beginning. -/
def lcp : List S → List S → Nat
  | x :: a, y :: b => if x = y then lcp a b + 1 else 0
  | _, _ => 0
theorem lcp_le : ∀ a b : List S, lcp a b ≤ a.length ∧ lcp a b ≤ b.length
  | [], _ => by simp [lcp]
  | _ :: _, [] => by simp [lcp]
  | x :: a, y :: b => by
    have := lcp_le a b
    simp only [lcp, List.length_cons]
    split <;> omega
theorem lcp_lt : ∀ (a b : List S) (n : Nat), n < lcp a b → ∃ s, a[n]? = some s ∧ b[n]? = some s
  | [], _, n, h => by simp [lcp] at h
  | _ :: _, [], n, h => by simp [lcp] at h
  | x :: a, y :: b, n, h => by
    simp only [lcp] at h
    split at h
    · rename_i e
      subst e
      cases n with
      | zero => exact ⟨x, rfl, rfl⟩
      | succ n => simpa using lcp_lt a b n (by omega)
    · omega
theorem lcp_end : ∀ (a b : List S) (s t : S), a[lcp a b]? = some s → b[lcp a b]? = some t → s ≠ t
  | [], _, s, t, h, _ => by simp at h
  | _ :: _, [], s, t, _, h => by simp at h
  | x :: a, y :: b, s, t, h1, h2 => by
    simp only [lcp] at h1 h2
    split at h1
    · rename_i e
      rw [if_pos e] at h2
      exact lcp_end a b s t (by simpa using h1) (by simpa using h2)
    · rename_i e
      rw [if_neg e] at h2
      simp at h1 h2
      subst h1; subst h2
      exact e
/-- So long as the lists go on alike, and no longer. -/
theorem lcp_is (a b : List S) (n : Nat) (h1 : ∀ m, m < n → ∃ s, a[m]? = some s ∧ b[m]? = some s) (h2 : ∀ s, a[n]? = some s → b[n]? = some s → False) : lcp a b = n := by
  rcases Nat.lt_trichotomy (lcp a b) n with h | h | h
  · obtain ⟨s, e1, e2⟩ := h1 _ h
    exact absurd rfl (lcp_end a b s s e1 e2)
  · exact h
  · obtain ⟨s, e1, e2⟩ := lcp_lt a b n h
    exact (h2 s e1 e2).elim

structure Rn where
  A : Nat
  B : Nat
  N : Nat deriving DecidableEq
/-- Back to where a run begins. -/
def back (a b : List S) : Nat → Nat → Nat × Nat
  | i + 1, k + 1 => if a[i]? = b[k]? then back a b i k else (i + 1, k + 1)
  | i, k => (i, k)
def runOf (a b : List S) (i k : Nat) : Rn := ⟨(back a b i k).1, (back a b i k).2, lcp (a.drop (back a b i k).1) (b.drop (back a b i k).2)⟩
/-- How often the rarest line of a run stands in the list. -/
def rare (m : Nat) (a : List S) (r : Rn) : Nat := ((a.drop r.A).take r.N).foldl (fun m s => min m (a.count s)) m
/-- The rarer run; the longer; the one further ahead. -/
def bet (m : Nat) (a : List S) (x y : Rn) : Bool :=
  if rare m a x ≠ rare m a y then decide (rare m a x < rare m a y) else if x.N ≠ y.N then decide (y.N < x.N) else if x.A ≠ y.A then decide (x.A < y.A) else decide (x.B < y.B)

theorem back_le (a b : List S) : ∀ i k, (back a b i k).1 ≤ i ∧ (back a b i k).2 ≤ k ∧ (back a b i k).1 + k = (back a b i k).2 + i
  | 0, k => by simp [back]
  | i + 1, 0 => by simp [back]
  | i + 1, k + 1 => by
    have := back_le a b i k
    simp only [back]
    split
    · omega
    · simp; omega

/-- A place where a run begins. -/
def Start (a b : List S) (i k : Nat) : Prop := (∃ s, a[i]? = some s ∧ b[k]? = some s) ∧ ¬ (0 < i ∧ 0 < k ∧ a[i - 1]? = b[k - 1]?)
/-- The runs that may be the anchor. -/
def Cand (a b : List S) (r : Rn) : Prop := Start a b r.A r.B ∧ r.N = lcp (a.drop r.A) (b.drop r.B) ∧ rare 65 a r ≤ 64

theorem back_start (a b : List S) : ∀ i k, (∃ s, a[i]? = some s ∧ b[k]? = some s) → Start a b (back a b i k).1 (back a b i k).2
  | 0, k, h => by simp only [back]; exact ⟨h, by simp⟩
  | i + 1, 0, h => by simp only [back]; exact ⟨h, by simp⟩
  | i + 1, k + 1, h => by
    simp only [back]
    split
    · rename_i e
      refine back_start a b i k ?_
      obtain ⟨s, h1, h2⟩ := h
      have : i < a.length := by have := (List.getElem?_eq_some_iff.1 h1).1; omega
      exact ⟨a[i], List.getElem?_eq_getElem this, by rw [← e]; exact List.getElem?_eq_getElem this⟩
    · rename_i e
      exact ⟨h, by simpa using e⟩
theorem back_of_start (a b : List S) (i k : Nat) (h : Start a b i k) : back a b i k = (i, k) := by
  match i, k with
  | 0, k => rfl
  | i + 1, 0 => rfl
  | i + 1, k + 1 =>
    simp only [back]
    rw [if_neg]
    exact fun e => h.2 ⟨by omega, by omega, by simpa using e⟩

theorem lcp_pos {a b : List S} {i k : Nat} (h : ∃ s, a[i]? = some s ∧ b[k]? = some s) : 0 < lcp (a.drop i) (b.drop k) := by
  obtain ⟨s, h1, h2⟩ := h
  obtain ⟨l1, e1⟩ := List.getElem?_eq_some_iff.1 h1
  obtain ⟨l2, e2⟩ := List.getElem?_eq_some_iff.1 h2
  rw [List.drop_eq_getElem_cons l1, List.drop_eq_getElem_cons l2, e1, e2]
  simp [lcp]

theorem fold_min_le (f : S → Nat) : ∀ (l : List S) (m : Nat), l.foldl (fun m s => min m (f s)) m ≤ m ∧ ∀ s ∈ l, l.foldl (fun m s => min m (f s)) m ≤ f s
  | [], m => by simp
  | x :: l, m => by
    obtain ⟨h1, h2⟩ := fold_min_le f l (min m (f x))
    simp only [List.foldl_cons]
    refine ⟨by omega, fun s hs => ?_⟩
    rcases List.mem_cons.1 hs with rfl | hs
    · omega
    · exact h2 s hs
theorem fold_min_is (f : S → Nat) : ∀ (l : List S) (m : Nat), l.foldl (fun m s => min m (f s)) m = m ∨ ∃ s ∈ l, l.foldl (fun m s => min m (f s)) m = f s
  | [], m => by simp
  | x :: l, m => by
    simp only [List.foldl_cons]
    rcases fold_min_is f l (min m (f x)) with h | ⟨s, hs, h⟩
    · rw [h]
      by_cases c : m ≤ f x
      · left; omega
      · right; exact ⟨x, by simp, by omega⟩
    · right; exact ⟨s, by simp [hs], h⟩
/-- The reference's start does not matter. -/
theorem rare_len (a : List S) (r : Rn) (h0 : 0 < r.N) (h1 : r.A + r.N ≤ a.length) : rare 65 a r = min 65 (rare a.length a r) := by
  unfold rare
  have hl : 0 < ((a.drop r.A).take r.N).length := by simp; omega
  obtain ⟨x, l, hx⟩ : ∃ x l, (a.drop r.A).take r.N = x :: l := by
    cases h : (a.drop r.A).take r.N with
    | nil => rw [h] at hl; simp at hl
    | cons x l => exact ⟨x, l, rfl⟩
  rw [hx]
  have g1 := fold_min_le a.count (x :: l) 65
  have g2 := fold_min_is a.count (x :: l) 65
  have g3 := fold_min_le a.count (x :: l) a.length
  have g4 := fold_min_is a.count (x :: l) a.length
  have hc : ∀ s, a.count s ≤ a.length := fun s => List.count_le_length
  have key : (∀ s ∈ x :: l, (x :: l).foldl (fun m s => min m (a.count s)) a.length ≤ a.count s) ∧ ∃ s ∈ x :: l, (x :: l).foldl (fun m s => min m (a.count s)) a.length = a.count s := by
    refine ⟨g3.2, ?_⟩
    rcases g4 with h | h
    · exact ⟨x, by simp, by have := g3.2 x (by simp); have := hc x; omega⟩
    · exact h
  obtain ⟨k1, s, hs, k2⟩ := key
  generalize (x :: l).foldl (fun m s => min m (a.count s)) a.length = L at *
  generalize (x :: l).foldl (fun m s => min m (a.count s)) 65 = M at *
  have := g1.2 s hs
  rcases g2 with h | ⟨t, ht, h⟩
  · omega
  · have := k1 t ht; omega

/-- The first among the best: one that no other beats. -/
def IsAnchor (a b : List S) (o : Option Rn) : Prop := match o with
  | some r => Cand a b r ∧ ∀ y, Cand a b y → y = r ∨ bet 65 a r y = true
  | none => ∀ y, ¬ Cand a b y
theorem bet_asymm (m : Nat) (a : List S) (x y : Rn) (h1 : bet m a x y = true) (h2 : bet m a y x = true) : False := by
  unfold bet at h1 h2
  generalize rare m a x = p at *
  generalize rare m a y = q at *
  simp only [ne_eq, ite_not] at h1 h2
  by_cases e1 : p = q
  · subst e1
    simp only [if_true] at h1 h2
    by_cases e2 : x.N = y.N
    · rw [if_pos e2] at h1; rw [if_pos e2.symm] at h2
      by_cases e3 : x.A = y.A
      · rw [if_pos e3] at h1; rw [if_pos e3.symm] at h2
        simp at h1 h2; omega
      · rw [if_neg e3] at h1; rw [if_neg fun e => e3 e.symm] at h2
        simp at h1 h2; omega
    · rw [if_neg e2] at h1; rw [if_neg fun e => e2 e.symm] at h2
      simp at h1 h2; omega
  · rw [if_neg e1] at h1; rw [if_neg fun e => e1 e.symm] at h2
    simp at h1 h2; omega
theorem IsAnchor.uniq {a b : List S} {o o' : Option Rn} (h : IsAnchor a b o) (h' : IsAnchor a b o') : o = o' := by
  cases o with
  | none =>
    cases o' with
    | none => rfl
    | some r => exact (h r h'.1).elim
  | some r =>
    cases o' with
    | none => exact (h' r h.1).elim
    | some r' =>
      rcases h.2 r' h'.1 with e | e
      · rw [e]
      · rcases h'.2 r h.1 with e' | e'
        · rw [e']
        · exact (bet_asymm 65 a r r' e e').elim

end Go.Proofs.Ytmmcepbcjlopdaa.E.Hs

/- Small functions of chapter 9: what they compute. Conditions: none. -/
namespace Go.Proofs.Ytmmcepbcjlopdaa.E.Hs
set_option linter.unusedVariables false
set_option linter.unusedSimpArgs false
set_option maxHeartbeats 20000000

/-- What several cases come to is proved once. -/
structure Hold (P : Prop) : Prop where
  out : P
theorem shareL {P Q : Prop} (h : Hold P → Q) (k : P) : Q := h ⟨k⟩
def small (a : List S) : Bool := decide (a.length ≤ 100) && a.all fun s => decide (s.length ≤ 200)

theorem small_spec (o : Bool) (a : List S) (hl : a.length ≤ 17592186044416) : Run tab 8 0 [.sl o 1 (a.map .str)] [] 0 (fun r _ _ => r = .bool (small a)) := by
  refine enter (F := f8) rfl rfl ?_
  simp only [f8, ex,reduceIte,reduceCtorEq,Nat.reduceEqDiff,Nat.reduceLT,Nat.reduceLeDiff,Nat.reduceAdd,Nat.reduceSub,Nat.reduceMul,Int.reduceAdd,Int.reduceSub,Int.reduceMul,Int.reduceNeg,Int.reduceLE,Int.reduceLT,Int.reduceEq,Int.reduceToNat]
  refine ifB.intro (fun h => ?_) (fun h => ?_)
  · (try simp only [ex,reduceIte,reduceCtorEq,Nat.reduceEqDiff,Nat.reduceLT,Nat.reduceLeDiff,Nat.reduceAdd,Nat.reduceSub,Nat.reduceMul,Int.reduceAdd,Int.reduceSub,Int.reduceMul,Int.reduceNeg,Int.reduceLE,Int.reduceLT,Int.reduceEq,Int.reduceToNat]) <;> repeat ((with_reducible refine Req.intro ?_ ?_); (first | omega | (simp <;> omega)); try simp only [ex,reduceIte,reduceCtorEq,Nat.reduceEqDiff,Nat.reduceLT,Nat.reduceLeDiff,Nat.reduceAdd,Nat.reduceSub,Nat.reduceMul,Int.reduceAdd,Int.reduceSub,Int.reduceMul,Int.reduceNeg,Int.reduceLE,Int.reduceLT,Int.reduceEq,Int.reduceToNat])
    simp at h
    simp [small]; omega
  · simp at h
    (try simp only [ex,reduceIte,reduceCtorEq,Nat.reduceEqDiff,Nat.reduceLT,Nat.reduceLeDiff,Nat.reduceAdd,Nat.reduceSub,Nat.reduceMul,Int.reduceAdd,Int.reduceSub,Int.reduceMul,Int.reduceNeg,Int.reduceLE,Int.reduceLT,Int.reduceEq,Int.reduceToNat]) <;> repeat ((with_reducible refine Req.intro ?_ ?_); (first | omega | (simp <;> omega)); try simp only [ex,reduceIte,reduceCtorEq,Nat.reduceEqDiff,Nat.reduceLT,Nat.reduceLeDiff,Nat.reduceAdd,Nat.reduceSub,Nat.reduceMul,Int.reduceAdd,Int.reduceSub,Int.reduceMul,Int.reduceNeg,Int.reduceLE,Int.reduceLT,Int.reduceEq,Int.reduceToNat])
    refine loopI fun L hL => ?_
    simp only [ex,reduceIte,reduceCtorEq,Nat.reduceEqDiff,Nat.reduceLT,Nat.reduceLeDiff,Nat.reduceAdd,Nat.reduceSub,Nat.reduceMul,Int.reduceAdd,Int.reduceSub,Int.reduceMul,Int.reduceNeg,Int.reduceLE,Int.reduceLT,Int.reduceEq,Int.reduceToNat]
    have key : ∀ m i : Nat, i + m = a.length → (a.take i).all (fun s => decide (s.length ≤ 200)) = true → L (L8_1 (.sl o 1 (a.map .str)) (.int .i64 i) [] 0) := by
      intro m
      induction m with
      | zero =>
        intro i hi ha
        apply hL
        simp only [L8_1, l8_1, ex,reduceIte,reduceCtorEq,Nat.reduceEqDiff,Nat.reduceLT,Nat.reduceLeDiff,Nat.reduceAdd,Nat.reduceSub,Nat.reduceMul,Int.reduceAdd,Int.reduceSub,Int.reduceMul,Int.reduceNeg,Int.reduceLE,Int.reduceLT,Int.reduceEq,Int.reduceToNat]
        refine ifB.no (by simp; omega) ?_
        (try simp only [ex,reduceIte,reduceCtorEq,Nat.reduceEqDiff,Nat.reduceLT,Nat.reduceLeDiff,Nat.reduceAdd,Nat.reduceSub,Nat.reduceMul,Int.reduceAdd,Int.reduceSub,Int.reduceMul,Int.reduceNeg,Int.reduceLE,Int.reduceLT,Int.reduceEq,Int.reduceToNat]) <;> repeat ((with_reducible refine Req.intro ?_ ?_); (first | omega | (simp <;> omega)); try simp only [ex,reduceIte,reduceCtorEq,Nat.reduceEqDiff,Nat.reduceLT,Nat.reduceLeDiff,Nat.reduceAdd,Nat.reduceSub,Nat.reduceMul,Int.reduceAdd,Int.reduceSub,Int.reduceMul,Int.reduceNeg,Int.reduceLE,Int.reduceLT,Int.reduceEq,Int.reduceToNat])
        rw [List.take_of_length_le (by omega)] at ha
        simp [small, ha]; omega
      | succ m ih =>
        intro i hi ha
        apply hL
        simp only [L8_1, l8_1, ex,reduceIte,reduceCtorEq,Nat.reduceEqDiff,Nat.reduceLT,Nat.reduceLeDiff,Nat.reduceAdd,Nat.reduceSub,Nat.reduceMul,Int.reduceAdd,Int.reduceSub,Int.reduceMul,Int.reduceNeg,Int.reduceLE,Int.reduceLT,Int.reduceEq,Int.reduceToNat]
        refine ifB.yes (by simp; omega) ?_
        (try simp only [ex,reduceIte,reduceCtorEq,Nat.reduceEqDiff,Nat.reduceLT,Nat.reduceLeDiff,Nat.reduceAdd,Nat.reduceSub,Nat.reduceMul,Int.reduceAdd,Int.reduceSub,Int.reduceMul,Int.reduceNeg,Int.reduceLE,Int.reduceLT,Int.reduceEq,Int.reduceToNat]) <;> repeat ((with_reducible refine Req.intro ?_ ?_); (first | omega | (simp <;> omega)); try simp only [ex,reduceIte,reduceCtorEq,Nat.reduceEqDiff,Nat.reduceLT,Nat.reduceLeDiff,Nat.reduceAdd,Nat.reduceSub,Nat.reduceMul,Int.reduceAdd,Int.reduceSub,Int.reduceMul,Int.reduceNeg,Int.reduceLE,Int.reduceLT,Int.reduceEq,Int.reduceToNat])
        refine WK.idx (by omega) fun x hx => ?_
        (try simp only [ex,reduceIte,reduceCtorEq,Nat.reduceEqDiff,Nat.reduceLT,Nat.reduceLeDiff,Nat.reduceAdd,Nat.reduceSub,Nat.reduceMul,Int.reduceAdd,Int.reduceSub,Int.reduceMul,Int.reduceNeg,Int.reduceLE,Int.reduceLT,Int.reduceEq,Int.reduceToNat]) <;> repeat ((with_reducible refine Req.intro ?_ ?_); (first | omega | (simp <;> omega)); try simp only [ex,reduceIte,reduceCtorEq,Nat.reduceEqDiff,Nat.reduceLT,Nat.reduceLeDiff,Nat.reduceAdd,Nat.reduceSub,Nat.reduceMul,Int.reduceAdd,Int.reduceSub,Int.reduceMul,Int.reduceNeg,Int.reduceLE,Int.reduceLT,Int.reduceEq,Int.reduceToNat])
        refine ifB.intro (fun h => ?_) (fun h => ?_)
        · (try simp only [ex,reduceIte,reduceCtorEq,Nat.reduceEqDiff,Nat.reduceLT,Nat.reduceLeDiff,Nat.reduceAdd,Nat.reduceSub,Nat.reduceMul,Int.reduceAdd,Int.reduceSub,Int.reduceMul,Int.reduceNeg,Int.reduceLE,Int.reduceLT,Int.reduceEq,Int.reduceToNat]) <;> repeat ((with_reducible refine Req.intro ?_ ?_); (first | omega | (simp <;> omega)); try simp only [ex,reduceIte,reduceCtorEq,Nat.reduceEqDiff,Nat.reduceLT,Nat.reduceLeDiff,Nat.reduceAdd,Nat.reduceSub,Nat.reduceMul,Int.reduceAdd,Int.reduceSub,Int.reduceMul,Int.reduceNeg,Int.reduceLE,Int.reduceLT,Int.reduceEq,Int.reduceToNat])
          have hm : x ∈ a := List.mem_of_getElem? hx
          have : a.all (fun s => decide (s.length ≤ 200)) = false := by
            rw [List.all_eq_false]
            exact ⟨x, hm, by simp at h ⊢; omega⟩
          simp [small, this]
        · (try simp only [ex,reduceIte,reduceCtorEq,Nat.reduceEqDiff,Nat.reduceLT,Nat.reduceLeDiff,Nat.reduceAdd,Nat.reduceSub,Nat.reduceMul,Int.reduceAdd,Int.reduceSub,Int.reduceMul,Int.reduceNeg,Int.reduceLE,Int.reduceLT,Int.reduceEq,Int.reduceToNat]) <;> repeat ((with_reducible refine Req.intro ?_ ?_); (first | omega | (simp <;> omega)); try simp only [ex,reduceIte,reduceCtorEq,Nat.reduceEqDiff,Nat.reduceLT,Nat.reduceLeDiff,Nat.reduceAdd,Nat.reduceSub,Nat.reduceMul,Int.reduceAdd,Int.reduceSub,Int.reduceMul,Int.reduceNeg,Int.reduceLE,Int.reduceLT,Int.reduceEq,Int.reduceToNat])
          have := ih (i + 1) (by omega) (by
            rw [List.take_add_one, hx]
            simp at h
            simp [ha]; omega)
          simpa [L8_1] using this
    exact key a.length 0 (by omega) (by simp)

theorem count_le (a : List S) (s : S) (i : Nat) : (a.take i).count s ≤ a.length := Nat.le_trans List.count_le_length (by simp; omega)
theorem count_spec (o : Bool) (a : List S) (s : S) (hl : a.length ≤ 17592186044416) : Run tab 15 0 [.sl o 1 (a.map .str), .str s] [] 0 (fun r _ _ => r = .int .i64 (a.count s : Nat)) := by
  refine enter (F := f15) rfl rfl ?_
  simp only [f15, ex,reduceIte,reduceCtorEq,Nat.reduceEqDiff,Nat.reduceLT,Nat.reduceLeDiff,Nat.reduceAdd,Nat.reduceSub,Nat.reduceMul,Int.reduceAdd,Int.reduceSub,Int.reduceMul,Int.reduceNeg,Int.reduceLE,Int.reduceLT,Int.reduceEq,Int.reduceToNat]
  refine loopI fun L hL => ?_
  simp only [ex,reduceIte,reduceCtorEq,Nat.reduceEqDiff,Nat.reduceLT,Nat.reduceLeDiff,Nat.reduceAdd,Nat.reduceSub,Nat.reduceMul,Int.reduceAdd,Int.reduceSub,Int.reduceMul,Int.reduceNeg,Int.reduceLE,Int.reduceLT,Int.reduceEq,Int.reduceToNat]
  have key : ∀ m i : Nat, i + m = a.length → L (L15_1 (.str s) (.int .i64 ((a.take i).count s : Nat)) (.sl o 1 (a.map .str)) (.int .i64 a.length) (.int .i64 i) [] 0) := by
    intro m
    induction m with
    | zero =>
      intro i hi
      apply hL
      simp only [L15_1, l15_1, ex,reduceIte,reduceCtorEq,Nat.reduceEqDiff,Nat.reduceLT,Nat.reduceLeDiff,Nat.reduceAdd,Nat.reduceSub,Nat.reduceMul,Int.reduceAdd,Int.reduceSub,Int.reduceMul,Int.reduceNeg,Int.reduceLE,Int.reduceLT,Int.reduceEq,Int.reduceToNat]
      refine ifB.no (by simp; omega) ?_
      simp only [ex,reduceIte,reduceCtorEq,Nat.reduceEqDiff,Nat.reduceLT,Nat.reduceLeDiff,Nat.reduceAdd,Nat.reduceSub,Nat.reduceMul,Int.reduceAdd,Int.reduceSub,Int.reduceMul,Int.reduceNeg,Int.reduceLE,Int.reduceLT,Int.reduceEq,Int.reduceToNat]
      rw [List.take_of_length_le (by omega)]
    | succ m ih =>
      intro i hi
      apply hL
      simp only [L15_1, l15_1, ex,reduceIte,reduceCtorEq,Nat.reduceEqDiff,Nat.reduceLT,Nat.reduceLeDiff,Nat.reduceAdd,Nat.reduceSub,Nat.reduceMul,Int.reduceAdd,Int.reduceSub,Int.reduceMul,Int.reduceNeg,Int.reduceLE,Int.reduceLT,Int.reduceEq,Int.reduceToNat]
      refine ifB.yes (by simp; omega) ?_
      simp only [ex,reduceIte,reduceCtorEq,Nat.reduceEqDiff,Nat.reduceLT,Nat.reduceLeDiff,Nat.reduceAdd,Nat.reduceSub,Nat.reduceMul,Int.reduceAdd,Int.reduceSub,Int.reduceMul,Int.reduceNeg,Int.reduceLE,Int.reduceLT,Int.reduceEq,Int.reduceToNat]
      refine WK.idx (by omega) fun x hx => ?_
      simp only [ex,reduceIte,reduceCtorEq,Nat.reduceEqDiff,Nat.reduceLT,Nat.reduceLeDiff,Nat.reduceAdd,Nat.reduceSub,Nat.reduceMul,Int.reduceAdd,Int.reduceSub,Int.reduceMul,Int.reduceNeg,Int.reduceLE,Int.reduceLT,Int.reduceEq,Int.reduceToNat]
      have h2 := ih (i + 1) (by omega)
      rw [List.take_add_one, hx] at h2
      have h3 := count_le a s i
      refine ifB.intro (fun h => ?_) (fun h => ?_)
      · (try simp only [ex,reduceIte,reduceCtorEq,Nat.reduceEqDiff,Nat.reduceLT,Nat.reduceLeDiff,Nat.reduceAdd,Nat.reduceSub,Nat.reduceMul,Int.reduceAdd,Int.reduceSub,Int.reduceMul,Int.reduceNeg,Int.reduceLE,Int.reduceLT,Int.reduceEq,Int.reduceToNat]) <;> repeat ((with_reducible refine Req.intro ?_ ?_); (first | omega | (simp <;> omega)); try simp only [ex,reduceIte,reduceCtorEq,Nat.reduceEqDiff,Nat.reduceLT,Nat.reduceLeDiff,Nat.reduceAdd,Nat.reduceSub,Nat.reduceMul,Int.reduceAdd,Int.reduceSub,Int.reduceMul,Int.reduceNeg,Int.reduceLE,Int.reduceLT,Int.reduceEq,Int.reduceToNat])
        simp at h
        simpa [L15_1, h] using h2
      · (try simp only [ex,reduceIte,reduceCtorEq,Nat.reduceEqDiff,Nat.reduceLT,Nat.reduceLeDiff,Nat.reduceAdd,Nat.reduceSub,Nat.reduceMul,Int.reduceAdd,Int.reduceSub,Int.reduceMul,Int.reduceNeg,Int.reduceLE,Int.reduceLT,Int.reduceEq,Int.reduceToNat]) <;> repeat ((with_reducible refine Req.intro ?_ ?_); (first | omega | (simp <;> omega)); try simp only [ex,reduceIte,reduceCtorEq,Nat.reduceEqDiff,Nat.reduceLT,Nat.reduceLeDiff,Nat.reduceAdd,Nat.reduceSub,Nat.reduceMul,Int.reduceAdd,Int.reduceSub,Int.reduceMul,Int.reduceNeg,Int.reduceLE,Int.reduceLT,Int.reduceEq,Int.reduceToNat])
        simp at h
        simpa [L15_1, h, List.count_cons] using h2
  exact key a.length 0 (by omega)
theorem rcount_spec (o : Bool) (a : List S) (s : S) (hl : a.length ≤ 17592186044416) : Run tab 16 0 [.sl o 1 (a.map .str), .str s] [] 0 (fun r _ _ => r = .int .i64 (a.count s : Nat)) := by
  refine enter (F := f16) rfl rfl ?_
  simp only [f16, ex,reduceIte,reduceCtorEq,Nat.reduceEqDiff,Nat.reduceLT,Nat.reduceLeDiff,Nat.reduceAdd,Nat.reduceSub,Nat.reduceMul,Int.reduceAdd,Int.reduceSub,Int.reduceMul,Int.reduceNeg,Int.reduceLE,Int.reduceLT,Int.reduceEq,Int.reduceToNat]
  refine loopI fun L hL => ?_
  simp only [ex,reduceIte,reduceCtorEq,Nat.reduceEqDiff,Nat.reduceLT,Nat.reduceLeDiff,Nat.reduceAdd,Nat.reduceSub,Nat.reduceMul,Int.reduceAdd,Int.reduceSub,Int.reduceMul,Int.reduceNeg,Int.reduceLE,Int.reduceLT,Int.reduceEq,Int.reduceToNat]
  have key : ∀ m i : Nat, i + m = a.length → L (L16_1 (.sl o 1 (a.map .str)) (.str s) (.int .i64 ((a.take i).count s : Nat)) (.int .i64 i) [] 0) := by
    intro m
    induction m with
    | zero =>
      intro i hi
      apply hL
      simp only [L16_1, l16_1, ex,reduceIte,reduceCtorEq,Nat.reduceEqDiff,Nat.reduceLT,Nat.reduceLeDiff,Nat.reduceAdd,Nat.reduceSub,Nat.reduceMul,Int.reduceAdd,Int.reduceSub,Int.reduceMul,Int.reduceNeg,Int.reduceLE,Int.reduceLT,Int.reduceEq,Int.reduceToNat]
      refine ifB.no (by simp; omega) ?_
      simp only [ex,reduceIte,reduceCtorEq,Nat.reduceEqDiff,Nat.reduceLT,Nat.reduceLeDiff,Nat.reduceAdd,Nat.reduceSub,Nat.reduceMul,Int.reduceAdd,Int.reduceSub,Int.reduceMul,Int.reduceNeg,Int.reduceLE,Int.reduceLT,Int.reduceEq,Int.reduceToNat]
      rw [List.take_of_length_le (by omega)]
    | succ m ih =>
      intro i hi
      apply hL
      simp only [L16_1, l16_1, ex,reduceIte,reduceCtorEq,Nat.reduceEqDiff,Nat.reduceLT,Nat.reduceLeDiff,Nat.reduceAdd,Nat.reduceSub,Nat.reduceMul,Int.reduceAdd,Int.reduceSub,Int.reduceMul,Int.reduceNeg,Int.reduceLE,Int.reduceLT,Int.reduceEq,Int.reduceToNat]
      refine ifB.yes (by simp; omega) ?_
      (try simp only [ex,reduceIte,reduceCtorEq,Nat.reduceEqDiff,Nat.reduceLT,Nat.reduceLeDiff,Nat.reduceAdd,Nat.reduceSub,Nat.reduceMul,Int.reduceAdd,Int.reduceSub,Int.reduceMul,Int.reduceNeg,Int.reduceLE,Int.reduceLT,Int.reduceEq,Int.reduceToNat]) <;> repeat ((with_reducible refine Req.intro ?_ ?_); (first | omega | (simp <;> omega)); try simp only [ex,reduceIte,reduceCtorEq,Nat.reduceEqDiff,Nat.reduceLT,Nat.reduceLeDiff,Nat.reduceAdd,Nat.reduceSub,Nat.reduceMul,Int.reduceAdd,Int.reduceSub,Int.reduceMul,Int.reduceNeg,Int.reduceLE,Int.reduceLT,Int.reduceEq,Int.reduceToNat])
      refine WK.idx (by omega) fun x hx => ?_
      simp only [ex,reduceIte,reduceCtorEq,Nat.reduceEqDiff,Nat.reduceLT,Nat.reduceLeDiff,Nat.reduceAdd,Nat.reduceSub,Nat.reduceMul,Int.reduceAdd,Int.reduceSub,Int.reduceMul,Int.reduceNeg,Int.reduceLE,Int.reduceLT,Int.reduceEq,Int.reduceToNat]
      have h2 := ih (i + 1) (by omega)
      rw [List.take_add_one, hx] at h2
      have h3 := count_le a s i
      refine ifB.intro (fun h => ?_) (fun h => ?_)
      · (try simp only [ex,reduceIte,reduceCtorEq,Nat.reduceEqDiff,Nat.reduceLT,Nat.reduceLeDiff,Nat.reduceAdd,Nat.reduceSub,Nat.reduceMul,Int.reduceAdd,Int.reduceSub,Int.reduceMul,Int.reduceNeg,Int.reduceLE,Int.reduceLT,Int.reduceEq,Int.reduceToNat]) <;> repeat ((with_reducible refine Req.intro ?_ ?_); (first | omega | (simp <;> omega)); try simp only [ex,reduceIte,reduceCtorEq,Nat.reduceEqDiff,Nat.reduceLT,Nat.reduceLeDiff,Nat.reduceAdd,Nat.reduceSub,Nat.reduceMul,Int.reduceAdd,Int.reduceSub,Int.reduceMul,Int.reduceNeg,Int.reduceLE,Int.reduceLT,Int.reduceEq,Int.reduceToNat])
        simp at h
        simpa [L16_1, h] using h2
      · (try simp only [ex,reduceIte,reduceCtorEq,Nat.reduceEqDiff,Nat.reduceLT,Nat.reduceLeDiff,Nat.reduceAdd,Nat.reduceSub,Nat.reduceMul,Int.reduceAdd,Int.reduceSub,Int.reduceMul,Int.reduceNeg,Int.reduceLE,Int.reduceLT,Int.reduceEq,Int.reduceToNat]) <;> repeat ((with_reducible refine Req.intro ?_ ?_); (first | omega | (simp <;> omega)); try simp only [ex,reduceIte,reduceCtorEq,Nat.reduceEqDiff,Nat.reduceLT,Nat.reduceLeDiff,Nat.reduceAdd,Nat.reduceSub,Nat.reduceMul,Int.reduceAdd,Int.reduceSub,Int.reduceMul,Int.reduceNeg,Int.reduceLE,Int.reduceLT,Int.reduceEq,Int.reduceToNat])
        simp at h
        simpa [L16_1, h, List.count_cons] using h2
  exact key a.length 0 (by omega)
end Go.Proofs.Ytmmcepbcjlopdaa.E.Hs

/- diff.table: what it computes. Conditions: none. -/
namespace Go.Proofs.Ytmmcepbcjlopdaa.E.Hs
set_option linter.unusedVariables false
set_option linter.unusedSimpArgs false
set_option maxHeartbeats 20000000

variable {α : Type} [DecidableEq α]
/-- The greatest number of lines that stay. -/
def lcs : List α → List α → Nat
  | [], _ => 0
  | _ :: _, [] => 0
  | x :: a, y :: b => if x = y then lcs a b + 1 else max (lcs a (y :: b)) (lcs (x :: a) b)
termination_by a b => a.length + b.length
theorem lcs_nil (b : List α) : lcs [] b = 0 := by unfold lcs; rfl
theorem lcs_nil2 (a : List α) : lcs a [] = 0 := by cases a <;> (unfold lcs; rfl)
theorem lcs_same (x : α) (a b : List α) : lcs (x :: a) (x :: b) = lcs a b + 1 := by rw [lcs, if_pos rfl]
theorem lcs_ne {x y : α} (h : x ≠ y) (a b : List α) : lcs (x :: a) (y :: b) = max (lcs a (y :: b)) (lcs (x :: a) b) := by rw [lcs, if_neg h]
theorem lcs_len : ∀ (n : Nat) (a b : List α), a.length + b.length ≤ n → lcs a b ≤ a.length
  | 0, a, b, h => by
    have : a = [] := List.eq_nil_of_length_eq_zero (by omega)
    subst this; simp [lcs_nil]
  | n + 1, [], b, h => by simp [lcs_nil]
  | n + 1, x :: a, [], h => by simp [lcs_nil2]
  | n + 1, x :: a, y :: b, h => by
    simp only [List.length_cons] at h
    have h1 := lcs_len n a b (by omega)
    have h2 := lcs_len n a (y :: b) (by simp only [List.length_cons]; omega)
    have h3 := lcs_len n (x :: a) b (by simp only [List.length_cons]; omega)
    simp only [List.length_cons] at h3 ⊢
    rw [lcs]
    split <;> omega
/-- The table's entry. -/
def ent (a b : List α) (i j : Nat) : Nat := lcs (a.drop i) (b.drop j)
theorem ent_le (a b : List α) (i j : Nat) : ent a b i j ≤ a.length := by
  have := lcs_len _ (a.drop i) (b.drop j) (Nat.le_refl _)
  rw [List.length_drop] at this
  unfold ent; omega
theorem ent_eq {a b : List α} {i j : Nat} {x : α} (h1 : a[i]? = some x) (h2 : b[j]? = some x) : ent a b i j = ent a b (i + 1) (j + 1) + 1 := by
  obtain ⟨l1, e1⟩ := List.getElem?_eq_some_iff.1 h1
  obtain ⟨l2, e2⟩ := List.getElem?_eq_some_iff.1 h2
  unfold ent
  rw [List.drop_eq_getElem_cons l1, List.drop_eq_getElem_cons l2, e1, e2, lcs_same]
theorem ent_ne {a b : List α} {i j : Nat} {x y : α} (h1 : a[i]? = some x) (h2 : b[j]? = some y) (h : x ≠ y) : ent a b i j = max (ent a b (i + 1) j) (ent a b i (j + 1)) := by
  obtain ⟨l1, e1⟩ := List.getElem?_eq_some_iff.1 h1
  obtain ⟨l2, e2⟩ := List.getElem?_eq_some_iff.1 h2
  unfold ent
  rw [List.drop_eq_getElem_cons l1, List.drop_eq_getElem_cons l2, e1, e2, lcs_ne h]
theorem ent_end (a b : List α) (i j : Nat) (h : a.length ≤ i ∨ b.length ≤ j) : ent a b i j = 0 := by
  unfold ent
  rcases h with h | h
  · rw [List.drop_of_length_le h, lcs_nil]
  · rw [List.drop_of_length_le h, lcs_nil2]
/-- What is right already: the rows from i on, and of row i - 1 the entries from j on. -/
def Right (a b : List α) (i j : Nat) (f : Nat → Nat → Nat) : Prop := ∀ i' j', i' ≤ a.length → j' ≤ b.length → (i ≤ i' ∨ (i' + 1 = i ∧ j ≤ j') ∨ b.length ≤ j') → f i' j' = ent a b i' j'
theorem Right.step {a b : List α} {i j : Nat} {f : Nat → Nat → Nat} (h : Right a b (i + 1) (j + 1) f) : Right a b (i + 1) j (updF f i j (ent a b i j)) := by
  intro i' j' h1 h2 h3
  unfold updF
  split
  · rename_i e; rw [e.1, e.2]
  · refine h i' j' h1 h2 ?_
    omega
theorem Right.row {a b : List α} {i : Nat} {f : Nat → Nat → Nat} (h : Right a b (i + 1) 0 f) : Right a b i b.length f := by
  intro i' j' h1 h2 h3
  refine h i' j' h1 h2 ?_
  omega
/-- The handles of the rows. -/
def hds (n w m : Nat) : List V := (List.range m).map fun i => .hs (n + 1 + i) 1 0 w
theorem hds_get {n w m i : Nat} (h : i < m) : (hds n w m)[i]? = some (.hs (n + 1 + i) 1 0 w) := by
  unfold hds; rw [List.getElem?_map, List.getElem?_range h]; rfl
def hdsP (n w m q : Nat) : List V := (List.range m).map fun i => if i < q then .hs (n + 1 + i) 1 0 w else .hs 0 0 0 0
theorem hdsP_zero (n w m : Nat) : List.replicate m (V.hs 0 0 0 0) = hdsP n w m 0 := by
  apply List.ext_getElem
  · simp [hdsP]
  · intro i h1 h2; simp [hdsP]
theorem hdsP_set (n w m q : Nat) : (hdsP n w m q).set q (.hs (n + 1 + q) 1 0 w) = hdsP n w m (q + 1) := by
  apply List.ext_getElem
  · simp [hdsP]
  · intro i h1 h2
    simp only [hdsP, List.getElem_set, List.getElem_map, List.getElem_range]
    by_cases e : q = i
    · subst e; simp
    · rw [if_neg e]
      by_cases c : i < q
      · rw [if_pos c, if_pos (by omega)]
      · rw [if_neg c, if_neg (by omega)]
theorem hdsP_all (n w m : Nat) : hdsP n w m m = hds n w m := by
  unfold hdsP hds
  apply List.map_congr_left
  intro i hi
  rw [if_pos (List.mem_range.1 hi)]
theorem hdsP_get {n w m q i : Nat} (h : i < m) : ∃ x, (hdsP n w m q)[i]? = some x ∧ (∀ y, reRow x [y] = y) ∧ x.cells.length = 1 := by
  unfold hdsP
  rw [List.getElem?_map, List.getElem?_range h]
  simp only [Option.map_some]
  split
  · exact ⟨_, rfl, fun _ => rfl, rfl⟩
  · exact ⟨_, rfl, fun _ => rfl, rfl⟩
theorem u16_wrap {n : Int} (h0 : 0 ≤ n) (h : n < 65536) : IntKind.u16.wrap n = n := by
  unfold IntKind.wrap
  simp [IntKind.bits, IntKind.signed]
  omega
theorem ifmax (x y : Nat) : (if (y : Int) > (x : Int) then (y : Int) else (x : Int)) = ((max x y : Nat) : Int) := by
  split <;> omega
end Go.Proofs.Ytmmcepbcjlopdaa.E.Hs

/- diff.table: walked. Conditions: none. -/
namespace Go.Proofs.Ytmmcepbcjlopdaa.E.Hs
set_option linter.unusedVariables false
set_option linter.unusedSimpArgs false
set_option maxHeartbeats 20000000

theorem table_spec (o o' : Bool) (a b : List S) (ha : a.length ≤ 4096) (hb : b.length ≤ 4096) (h : Heap) (n : Nat) (hl : Low h n) :
    Run tab 33 0 [.sl o 1 (a.map .str), .sl o' 1 (b.map .str)] h n (fun r h' n' => r = .hs n 1 0 (a.length + 1) ∧ n' = n + (a.length + 2) ∧ ∃ f, (∀ i j, i ≤ a.length → j ≤ b.length → f i j = ent a b i j) ∧ h' = TB .u16 h n (a.length + 1) (b.length + 1) (hds n (b.length + 1) (a.length + 1)) f) := by
  refine enter (F := f33) rfl rfl ?_
  simp only [f33, ex,reduceIte,reduceCtorEq,Nat.reduceEqDiff,Nat.reduceLT,Nat.reduceLeDiff,Nat.reduceAdd,Nat.reduceSub,Nat.reduceMul,Int.reduceAdd,Int.reduceSub,Int.reduceMul,Int.reduceNeg,Int.reduceLE,Int.reduceLT,Int.reduceEq,Int.reduceToNat]
  have t1 : ((a.length : Int) + 1).toNat = a.length + 1 := by omega
  have t2 : ((b.length : Int) + 1).toNat = b.length + 1 := by omega
  have h0 : set h n (.rows 1 (List.replicate (a.length + 1) (V.hs 0 0 0 0))) = TB .u16 h n 0 (b.length + 1) (hdsP n (b.length + 1) (a.length + 1) 0) (fun _ _ => 0) := by
    rw [hdsP_zero n (b.length + 1)]; exact TB_first hl
  (try simp only [t1, h0, ex,reduceIte,reduceCtorEq,Nat.reduceEqDiff,Nat.reduceLT,Nat.reduceLeDiff,Nat.reduceAdd,Nat.reduceSub,Nat.reduceMul,Int.reduceAdd,Int.reduceSub,Int.reduceMul,Int.reduceNeg,Int.reduceLE,Int.reduceLT,Int.reduceEq,Int.reduceToNat]) <;> repeat ((with_reducible refine Req.intro ?_ ?_); (first | omega | (simp <;> omega)); try simp only [t1, h0, ex,reduceIte,reduceCtorEq,Nat.reduceEqDiff,Nat.reduceLT,Nat.reduceLeDiff,Nat.reduceAdd,Nat.reduceSub,Nat.reduceMul,Int.reduceAdd,Int.reduceSub,Int.reduceMul,Int.reduceNeg,Int.reduceLE,Int.reduceLT,Int.reduceEq,Int.reduceToNat])
  refine loopI fun L1 hL1 => ?_
  (try simp only [ex,reduceIte,reduceCtorEq,Nat.reduceEqDiff,Nat.reduceLT,Nat.reduceLeDiff,Nat.reduceAdd,Nat.reduceSub,Nat.reduceMul,Int.reduceAdd,Int.reduceSub,Int.reduceMul,Int.reduceNeg,Int.reduceLE,Int.reduceLT,Int.reduceEq,Int.reduceToNat]) <;> repeat ((with_reducible refine Req.intro ?_ ?_); (first | omega | (simp <;> omega)); try simp only [ex,reduceIte,reduceCtorEq,Nat.reduceEqDiff,Nat.reduceLT,Nat.reduceLeDiff,Nat.reduceAdd,Nat.reduceSub,Nat.reduceMul,Int.reduceAdd,Int.reduceSub,Int.reduceMul,Int.reduceNeg,Int.reduceLE,Int.reduceLT,Int.reduceEq,Int.reduceToNat])
  have key1 : ∀ m q : Nat, q + m = a.length + 1 → L1 (L33_1 (.sl o 1 (a.map .str)) (.sl o' 1 (b.map .str)) (.hs n 1 0 (a.length + 1)) (.int .i64 ((a.length : Int) + 1)) (.int .i64 q) (TB .u16 h n q (b.length + 1) (hdsP n (b.length + 1) (a.length + 1) q) (fun _ _ => 0)) (n + 1 + q)) := by
    intro m
    induction m with
    | succ m ih =>
      intro q hq
      apply hL1
      simp only [L33_1, l33_1, ex,reduceIte,reduceCtorEq,Nat.reduceEqDiff,Nat.reduceLT,Nat.reduceLeDiff,Nat.reduceAdd,Nat.reduceSub,Nat.reduceMul,Int.reduceAdd,Int.reduceSub,Int.reduceMul,Int.reduceNeg,Int.reduceLE,Int.reduceLT,Int.reduceEq,Int.reduceToNat]
      have h1 : decide ((q : Int) < (a.length : Int) + 1) = true := by simp; omega
      have g0 := fun hs => TB_outer (k := .u16) (m := q) (w := b.length + 1) (hs := hs) (f := fun _ _ => 0) hl
      have g1 := TB_new (k := .u16) (m := q) (w := b.length + 1) (hs := hdsP n (b.length + 1) (a.length + 1) q) (f := fun _ _ => 0) hl (fun _ => rfl)
      have g2 := TB_outer (k := .u16) (m := q + 1) (w := b.length + 1) (hs := hdsP n (b.length + 1) (a.length + 1) q) (f := fun _ _ => 0) hl
      have g3 := fun hs => TB_set_outer (k := .u16) (m := q + 1) (w := b.length + 1) (hs := hdsP n (b.length + 1) (a.length + 1) q) (f := fun _ _ => 0) (hs' := hs) hl
      have g4 := hdsP_set n (b.length + 1) (a.length + 1) q
      have g5 : (hdsP n (b.length + 1) (a.length + 1) q)[q]? = some (.hs 0 0 0 0) := by
        unfold hdsP; rw [List.getElem?_map, List.getElem?_range (by omega)]; simp
      (try simp only [h1, t2, g1, g2, g5, g3, g4, ex,reduceIte,reduceCtorEq,Nat.reduceEqDiff,Nat.reduceLT,Nat.reduceLeDiff,Nat.reduceAdd,Nat.reduceSub,Nat.reduceMul,Int.reduceAdd,Int.reduceSub,Int.reduceMul,Int.reduceNeg,Int.reduceLE,Int.reduceLT,Int.reduceEq,Int.reduceToNat]) <;> repeat ((with_reducible refine Req.intro ?_ ?_); (first | omega | (simp <;> omega)); try simp only [h1, t2, g1, g2, g5, g3, g4, ex,reduceIte,reduceCtorEq,Nat.reduceEqDiff,Nat.reduceLT,Nat.reduceLeDiff,Nat.reduceAdd,Nat.reduceSub,Nat.reduceMul,Int.reduceAdd,Int.reduceSub,Int.reduceMul,Int.reduceNeg,Int.reduceLE,Int.reduceLT,Int.reduceEq,Int.reduceToNat])
      have h9 := ih (q + 1) (by omega)
      rw [show n + 1 + (q + 1) = n + 1 + q + 1 by omega] at h9
      exact h9
    | zero =>
      intro q hq
      apply hL1
      simp only [L33_1, l33_1, ex,reduceIte,reduceCtorEq,Nat.reduceEqDiff,Nat.reduceLT,Nat.reduceLeDiff,Nat.reduceAdd,Nat.reduceSub,Nat.reduceMul,Int.reduceAdd,Int.reduceSub,Int.reduceMul,Int.reduceNeg,Int.reduceLE,Int.reduceLT,Int.reduceEq,Int.reduceToNat]
      have h1 : decide ((q : Int) < (a.length : Int) + 1) = false := by simp; omega
      (try simp only [h1, ex,reduceIte,reduceCtorEq,Nat.reduceEqDiff,Nat.reduceLT,Nat.reduceLeDiff,Nat.reduceAdd,Nat.reduceSub,Nat.reduceMul,Int.reduceAdd,Int.reduceSub,Int.reduceMul,Int.reduceNeg,Int.reduceLE,Int.reduceLT,Int.reduceEq,Int.reduceToNat]) <;> repeat ((with_reducible refine Req.intro ?_ ?_); (first | omega | (simp <;> omega)); try simp only [h1, ex,reduceIte,reduceCtorEq,Nat.reduceEqDiff,Nat.reduceLT,Nat.reduceLeDiff,Nat.reduceAdd,Nat.reduceSub,Nat.reduceMul,Int.reduceAdd,Int.reduceSub,Int.reduceMul,Int.reduceNeg,Int.reduceLE,Int.reduceLT,Int.reduceEq,Int.reduceToNat])
      rw [show q = a.length + 1 by omega, hdsP_all]
      refine loopI fun L3 hL3 => ?_
      (try simp only [ex,reduceIte,reduceCtorEq,Nat.reduceEqDiff,Nat.reduceLT,Nat.reduceLeDiff,Nat.reduceAdd,Nat.reduceSub,Nat.reduceMul,Int.reduceAdd,Int.reduceSub,Int.reduceMul,Int.reduceNeg,Int.reduceLE,Int.reduceLT,Int.reduceEq,Int.reduceToNat]) <;> repeat ((with_reducible refine Req.intro ?_ ?_); (first | omega | (simp <;> omega)); try simp only [ex,reduceIte,reduceCtorEq,Nat.reduceEqDiff,Nat.reduceLT,Nat.reduceLeDiff,Nat.reduceAdd,Nat.reduceSub,Nat.reduceMul,Int.reduceAdd,Int.reduceSub,Int.reduceMul,Int.reduceNeg,Int.reduceLE,Int.reduceLT,Int.reduceEq,Int.reduceToNat])
      have key3 : ∀ (m : Nat) (f : Nat → Nat → Nat), m ≤ a.length → Right a b m b.length f → L3 (L33_3 (.sl o 1 (a.map .str)) (.sl o' 1 (b.map .str)) (.hs n 1 0 (a.length + 1)) (.int .i64 ((m : Int) - 1)) (TB .u16 h n (a.length + 1) (b.length + 1) (hds n (b.length + 1) (a.length + 1)) f) (n + 1 + (a.length + 1))) := by
        intro m
        induction m with
        | zero =>
          intro f hm hf
          apply hL3
          simp only [L33_3, l33_3, ex,reduceIte,reduceCtorEq,Nat.reduceEqDiff,Nat.reduceLT,Nat.reduceLeDiff,Nat.reduceAdd,Nat.reduceSub,Nat.reduceMul,Int.reduceAdd,Int.reduceSub,Int.reduceMul,Int.reduceNeg,Int.reduceLE,Int.reduceLT,Int.reduceEq,Int.reduceToNat]
          have h1 : decide (((0 : Nat) : Int) - 1 ≥ 0) = false := by decide
          (try simp only [h1, ex,reduceIte,reduceCtorEq,Nat.reduceEqDiff,Nat.reduceLT,Nat.reduceLeDiff,Nat.reduceAdd,Nat.reduceSub,Nat.reduceMul,Int.reduceAdd,Int.reduceSub,Int.reduceMul,Int.reduceNeg,Int.reduceLE,Int.reduceLT,Int.reduceEq,Int.reduceToNat]) <;> repeat ((with_reducible refine Req.intro ?_ ?_); (first | omega | (simp <;> omega)); try simp only [h1, ex,reduceIte,reduceCtorEq,Nat.reduceEqDiff,Nat.reduceLT,Nat.reduceLeDiff,Nat.reduceAdd,Nat.reduceSub,Nat.reduceMul,Int.reduceAdd,Int.reduceSub,Int.reduceMul,Int.reduceNeg,Int.reduceLE,Int.reduceLT,Int.reduceEq,Int.reduceToNat])
          exact ⟨by omega, f, fun i j hi hj => hf i j hi hj (by omega), rfl⟩
        | succ m ih =>
          intro f hm hf
          apply hL3
          simp only [L33_3, l33_3, ex,reduceIte,reduceCtorEq,Nat.reduceEqDiff,Nat.reduceLT,Nat.reduceLeDiff,Nat.reduceAdd,Nat.reduceSub,Nat.reduceMul,Int.reduceAdd,Int.reduceSub,Int.reduceMul,Int.reduceNeg,Int.reduceLE,Int.reduceLT,Int.reduceEq,Int.reduceToNat]
          have t3 : (((m + 1 : Nat) : Int) - 1) = (m : Int) := by omega
          have h1 : decide ((m : Int) ≥ 0) = true := by simp
          (try simp only [t3, h1, ex,reduceIte,reduceCtorEq,Nat.reduceEqDiff,Nat.reduceLT,Nat.reduceLeDiff,Nat.reduceAdd,Nat.reduceSub,Nat.reduceMul,Int.reduceAdd,Int.reduceSub,Int.reduceMul,Int.reduceNeg,Int.reduceLE,Int.reduceLT,Int.reduceEq,Int.reduceToNat]) <;> repeat ((with_reducible refine Req.intro ?_ ?_); (first | omega | (simp <;> omega)); try simp only [t3, h1, ex,reduceIte,reduceCtorEq,Nat.reduceEqDiff,Nat.reduceLT,Nat.reduceLeDiff,Nat.reduceAdd,Nat.reduceSub,Nat.reduceMul,Int.reduceAdd,Int.reduceSub,Int.reduceMul,Int.reduceNeg,Int.reduceLE,Int.reduceLT,Int.reduceEq,Int.reduceToNat])
          refine loopI fun L2 hL2 => ?_
          (try simp only [ex,reduceIte,reduceCtorEq,Nat.reduceEqDiff,Nat.reduceLT,Nat.reduceLeDiff,Nat.reduceAdd,Nat.reduceSub,Nat.reduceMul,Int.reduceAdd,Int.reduceSub,Int.reduceMul,Int.reduceNeg,Int.reduceLE,Int.reduceLT,Int.reduceEq,Int.reduceToNat]) <;> repeat ((with_reducible refine Req.intro ?_ ?_); (first | omega | (simp <;> omega)); try simp only [ex,reduceIte,reduceCtorEq,Nat.reduceEqDiff,Nat.reduceLT,Nat.reduceLeDiff,Nat.reduceAdd,Nat.reduceSub,Nat.reduceMul,Int.reduceAdd,Int.reduceSub,Int.reduceMul,Int.reduceNeg,Int.reduceLE,Int.reduceLT,Int.reduceEq,Int.reduceToNat])
          have key2 : ∀ (q : Nat) (f : Nat → Nat → Nat), q ≤ b.length → Right a b (m + 1) q f → L2 (L33_2 (.sl o 1 (a.map .str)) (.sl o' 1 (b.map .str)) (.hs n 1 0 (a.length + 1)) (.int .i64 (m : Int)) (.int .i64 ((q : Int) - 1)) (TB .u16 h n (a.length + 1) (b.length + 1) (hds n (b.length + 1) (a.length + 1)) f) (n + 1 + (a.length + 1))) := by
            intro q
            induction q with
            | zero =>
              intro f hq hf
              apply hL2
              simp only [L33_2, l33_2, ex,reduceIte,reduceCtorEq,Nat.reduceEqDiff,Nat.reduceLT,Nat.reduceLeDiff,Nat.reduceAdd,Nat.reduceSub,Nat.reduceMul,Int.reduceAdd,Int.reduceSub,Int.reduceMul,Int.reduceNeg,Int.reduceLE,Int.reduceLT,Int.reduceEq,Int.reduceToNat]
              have h1 : decide (((0 : Nat) : Int) - 1 ≥ 0) = false := by decide
              (try simp only [h1, ex,reduceIte,reduceCtorEq,Nat.reduceEqDiff,Nat.reduceLT,Nat.reduceLeDiff,Nat.reduceAdd,Nat.reduceSub,Nat.reduceMul,Int.reduceAdd,Int.reduceSub,Int.reduceMul,Int.reduceNeg,Int.reduceLE,Int.reduceLT,Int.reduceEq,Int.reduceToNat]) <;> repeat ((with_reducible refine Req.intro ?_ ?_); (first | omega | (simp <;> omega)); try simp only [h1, ex,reduceIte,reduceCtorEq,Nat.reduceEqDiff,Nat.reduceLT,Nat.reduceLeDiff,Nat.reduceAdd,Nat.reduceSub,Nat.reduceMul,Int.reduceAdd,Int.reduceSub,Int.reduceMul,Int.reduceNeg,Int.reduceLE,Int.reduceLT,Int.reduceEq,Int.reduceToNat])
              exact ih f (by omega) (Right.row hf)
            | succ q ih2 =>
              intro f hq hf
              apply hL2
              simp only [L33_2, l33_2, ex,reduceIte,reduceCtorEq,Nat.reduceEqDiff,Nat.reduceLT,Nat.reduceLeDiff,Nat.reduceAdd,Nat.reduceSub,Nat.reduceMul,Int.reduceAdd,Int.reduceSub,Int.reduceMul,Int.reduceNeg,Int.reduceLE,Int.reduceLT,Int.reduceEq,Int.reduceToNat]
              have t4 : (((q + 1 : Nat) : Int) - 1) = (q : Int) := by omega
              have h1 : decide ((q : Int) ≥ 0) = true := by simp
              have g1 : a[m]? = some (a[m]'(by omega)) := List.getElem?_eq_getElem _
              have g2 : b[q]? = some (b[q]'(by omega)) := List.getElem?_eq_getElem _
              generalize hx : a[m]'(by omega) = x at g1
              generalize hy : b[q]'(by omega) = y at g2
              have k0 := TB_outer (k := .u16) (m := a.length + 1) (w := b.length + 1) (hs := hds n (b.length + 1) (a.length + 1)) (f := f) hl
              have k1 := hds_get (n := n) (w := b.length + 1) (m := a.length + 1) (i := m) (by omega)
              have k2 := hds_get (n := n) (w := b.length + 1) (m := a.length + 1) (i := m + 1) (by omega)
              have k3 := TB_row (k := .u16) (m := a.length + 1) (w := b.length + 1) (hs := hds n (b.length + 1) (a.length + 1)) (f := f) (i := m) hl (by omega)
              have k4 := TB_row (k := .u16) (m := a.length + 1) (w := b.length + 1) (hs := hds n (b.length + 1) (a.length + 1)) (f := f) (i := m + 1) hl (by omega)
              have k5 := rowV_get (k := .u16) (w := b.length + 1) (f := f) (i := m) (j := q) (by omega)
              have k6 := rowV_get (k := .u16) (w := b.length + 1) (f := f) (i := m) (j := q + 1) (by omega)
              have k7 := rowV_get (k := .u16) (w := b.length + 1) (f := f) (i := m + 1) (j := q) (by omega)
              have k8 := rowV_get (k := .u16) (w := b.length + 1) (f := f) (i := m + 1) (j := q + 1) (by omega)
              have f1 := hf (m + 1) (q + 1) (by omega) (by omega) (by omega)
              have f2 := hf (m + 1) q (by omega) (by omega) (by omega)
              have f3 := hf m (q + 1) (by omega) (by omega) (by omega)
              have e1 := ent_le a b (m + 1) (q + 1)
              have hset := fun v => TB_set_row (k := .u16) (m := a.length + 1) (w := b.length + 1) (hs := hds n (b.length + 1) (a.length + 1)) (f := f) (i := m) (j := q) (v := v) hl (by omega)
              rcases Classical.em (x = y) with c | c
              · have g3 : decide (x = y) = true := by simpa using c
                subst c
                have h9 := ih2 _ (by omega) (Right.step hf)
                rw [ent_eq g1 g2] at h9
                have kw : IntKind.u16.wrap (((ent a b (m + 1) (q + 1) : Nat) : Int) + 1) = ((ent a b (m + 1) (q + 1) + 1 : Nat) : Int) := by
                  rw [u16_wrap (by omega) (by omega)]; rfl
                (try simp only [t4, h1, g1, g2, g3, k0, k1, k2, k3, k4, k5, k8, f1, kw, hset, ex,reduceIte,reduceCtorEq,Nat.reduceEqDiff,Nat.reduceLT,Nat.reduceLeDiff,Nat.reduceAdd,Nat.reduceSub,Nat.reduceMul,Int.reduceAdd,Int.reduceSub,Int.reduceMul,Int.reduceNeg,Int.reduceLE,Int.reduceLT,Int.reduceEq,Int.reduceToNat]) <;> repeat ((with_reducible refine Req.intro ?_ ?_); (first | omega | (simp <;> omega)); try simp only [t4, h1, g1, g2, g3, k0, k1, k2, k3, k4, k5, k8, f1, kw, hset, ex,reduceIte,reduceCtorEq,Nat.reduceEqDiff,Nat.reduceLT,Nat.reduceLeDiff,Nat.reduceAdd,Nat.reduceSub,Nat.reduceMul,Int.reduceAdd,Int.reduceSub,Int.reduceMul,Int.reduceNeg,Int.reduceLE,Int.reduceLT,Int.reduceEq,Int.reduceToNat])
                exact h9
              · have g3 : decide (x = y) = false := by simpa using c
                have h9 := ih2 _ (by omega) (Right.step hf)
                rw [ent_ne g1 g2 c] at h9
                (try simp only [t4, h1, g1, g2, g3, k0, k1, k2, k3, k4, k5, k6, k7, f2, f3, ifmax, hset, ex,reduceIte,reduceCtorEq,Nat.reduceEqDiff,Nat.reduceLT,Nat.reduceLeDiff,Nat.reduceAdd,Nat.reduceSub,Nat.reduceMul,Int.reduceAdd,Int.reduceSub,Int.reduceMul,Int.reduceNeg,Int.reduceLE,Int.reduceLT,Int.reduceEq,Int.reduceToNat]) <;> repeat ((with_reducible refine Req.intro ?_ ?_); (first | omega | (simp <;> omega)); try simp only [t4, h1, g1, g2, g3, k0, k1, k2, k3, k4, k5, k6, k7, f2, f3, ifmax, hset, ex,reduceIte,reduceCtorEq,Nat.reduceEqDiff,Nat.reduceLT,Nat.reduceLeDiff,Nat.reduceAdd,Nat.reduceSub,Nat.reduceMul,Int.reduceAdd,Int.reduceSub,Int.reduceMul,Int.reduceNeg,Int.reduceLE,Int.reduceLT,Int.reduceEq,Int.reduceToNat])
                exact h9
          exact key2 b.length f (Nat.le_refl _) hf
      exact key3 a.length (fun _ _ => 0) (Nat.le_refl _) (fun i j hi hj hh => (ent_end a b i j (by omega)).symm)
  exact key1 (a.length + 1) 0 (Nat.zero_add _)
end Go.Proofs.Ytmmcepbcjlopdaa.E.Hs

/- diff.Unchanged and diff.Cost: walked. Conditions: none. -/
namespace Go.Proofs.Ytmmcepbcjlopdaa.E.Hs
set_option linter.unusedVariables false
set_option linter.unusedSimpArgs false
set_option maxHeartbeats 20000000

structure Ed where
  f : Nat
  d : Nat
  t : Nat
  i : Nat deriving DecidableEq
def edV (e : Ed) : V := .agg [.int .i64 e.f, .int .i64 e.d, .int .i64 e.t, .int .i64 e.i]
def rnV (r : Rn) : V := .agg [.int .i64 r.A, .int .i64 r.B, .int .i64 r.N]
/-- No number is great. -/
def SmallE (l : List Ed) : Prop := l.length ≤ 1000000 ∧ ∀ e ∈ l, e.f ≤ 1000000 ∧ e.d ≤ 1000000 ∧ e.t ≤ 1000000 ∧ e.i ≤ 1000000
/-- The lines that stay. -/
def unch (n : Nat) : List Ed → Nat → Nat → List Rn
  | [], i, j => if i < n then [⟨i, j, n - i⟩] else []
  | e :: r, i, j => (if i < e.f then [⟨i, j, e.f - i⟩] else []) ++ unch n r (e.f + e.d) (e.t + e.i)
theorem unchanged_spec (o : Bool) (l : List Ed) (n : Nat) (hl : SmallE l) (hn : n ≤ 1000000) :
    Run tab 37 0 [.sl o 4 (l.map edV), .int .i64 n] [] 0 (fun r _ _ => r = .sl true 3 ((unch n l 0 0).map rnV)) := by
  refine enter (F := f37) rfl rfl ?_
  simp only [f37, ex,reduceIte,reduceCtorEq,Nat.reduceEqDiff,Nat.reduceLT,Nat.reduceLeDiff,Nat.reduceAdd,Nat.reduceSub,Nat.reduceMul,Int.reduceAdd,Int.reduceSub,Int.reduceMul,Int.reduceNeg,Int.reduceLE,Int.reduceLT,Int.reduceEq,Int.reduceToNat]
  (try simp only [ex,reduceIte,reduceCtorEq,Nat.reduceEqDiff,Nat.reduceLT,Nat.reduceLeDiff,Nat.reduceAdd,Nat.reduceSub,Nat.reduceMul,Int.reduceAdd,Int.reduceSub,Int.reduceMul,Int.reduceNeg,Int.reduceLE,Int.reduceLT,Int.reduceEq,Int.reduceToNat]) <;> repeat ((with_reducible refine Req.intro ?_ ?_); (first | omega | (simp <;> omega)); try simp only [ex,reduceIte,reduceCtorEq,Nat.reduceEqDiff,Nat.reduceLT,Nat.reduceLeDiff,Nat.reduceAdd,Nat.reduceSub,Nat.reduceMul,Int.reduceAdd,Int.reduceSub,Int.reduceMul,Int.reduceNeg,Int.reduceLE,Int.reduceLT,Int.reduceEq,Int.reduceToNat])
  refine loopI fun L hL => ?_
  (try simp only [ex,reduceIte,reduceCtorEq,Nat.reduceEqDiff,Nat.reduceLT,Nat.reduceLeDiff,Nat.reduceAdd,Nat.reduceSub,Nat.reduceMul,Int.reduceAdd,Int.reduceSub,Int.reduceMul,Int.reduceNeg,Int.reduceLE,Int.reduceLT,Int.reduceEq,Int.reduceToNat]) <;> repeat ((with_reducible refine Req.intro ?_ ?_); (first | omega | (simp <;> omega)); try simp only [ex,reduceIte,reduceCtorEq,Nat.reduceEqDiff,Nat.reduceLT,Nat.reduceLeDiff,Nat.reduceAdd,Nat.reduceSub,Nat.reduceMul,Int.reduceAdd,Int.reduceSub,Int.reduceMul,Int.reduceNeg,Int.reduceLE,Int.reduceLT,Int.reduceEq,Int.reduceToNat])
  have hlen := hl.1
  have key : ∀ (m p c i j : Nat) (out : List Rn), p + m = l.length → i ≤ 2000000 → j ≤ 2000000 → out.length ≤ p → out ++ unch n (l.drop p) i j = unch n l 0 0 →
      L (L37_1 (.int .i64 n) (.sl true 3 (out.map rnV)) (.int .i64 i) (.int .i64 j) (.sl o 4 (l.map edV)) (.int .i64 l.length) (.int .i64 p) [] c) := by
    intro m
    induction m with
    | zero =>
      intro p c i j out hp hi hj ho he
      apply hL
      simp only [L37_1, l37_1, ex,reduceIte,reduceCtorEq,Nat.reduceEqDiff,Nat.reduceLT,Nat.reduceLeDiff,Nat.reduceAdd,Nat.reduceSub,Nat.reduceMul,Int.reduceAdd,Int.reduceSub,Int.reduceMul,Int.reduceNeg,Int.reduceLE,Int.reduceLT,Int.reduceEq,Int.reduceToNat]
      have h1 : decide ((p : Int) < (l.length : Int)) = false := by simp; omega
      rw [List.drop_of_length_le (by omega), unch] at he
      rw [← he]
      rcases Nat.lt_or_ge i n with c | c
      · have h2 : decide ((n : Int) > (i : Int)) = true := by simp; omega
        have h3 : (n : Int) - (i : Int) = ((n - i : Nat) : Int) := by omega
        rw [if_pos c]
        (try simp only [h1, h2, h3, ex,reduceIte,reduceCtorEq,Nat.reduceEqDiff,Nat.reduceLT,Nat.reduceLeDiff,Nat.reduceAdd,Nat.reduceSub,Nat.reduceMul,Int.reduceAdd,Int.reduceSub,Int.reduceMul,Int.reduceNeg,Int.reduceLE,Int.reduceLT,Int.reduceEq,Int.reduceToNat]) <;> repeat ((with_reducible refine Req.intro ?_ ?_); (first | omega | (simp <;> omega)); try simp only [h1, h2, h3, ex,reduceIte,reduceCtorEq,Nat.reduceEqDiff,Nat.reduceLT,Nat.reduceLeDiff,Nat.reduceAdd,Nat.reduceSub,Nat.reduceMul,Int.reduceAdd,Int.reduceSub,Int.reduceMul,Int.reduceNeg,Int.reduceLE,Int.reduceLT,Int.reduceEq,Int.reduceToNat])
        simp [rnV]
      · have h2 : decide ((n : Int) > (i : Int)) = false := by simp; omega
        rw [if_neg (by omega)]
        (try simp only [h1, h2, List.append_nil, ex,reduceIte,reduceCtorEq,Nat.reduceEqDiff,Nat.reduceLT,Nat.reduceLeDiff,Nat.reduceAdd,Nat.reduceSub,Nat.reduceMul,Int.reduceAdd,Int.reduceSub,Int.reduceMul,Int.reduceNeg,Int.reduceLE,Int.reduceLT,Int.reduceEq,Int.reduceToNat]) <;> repeat ((with_reducible refine Req.intro ?_ ?_); (first | omega | (simp <;> omega)); try simp only [h1, h2, List.append_nil, ex,reduceIte,reduceCtorEq,Nat.reduceEqDiff,Nat.reduceLT,Nat.reduceLeDiff,Nat.reduceAdd,Nat.reduceSub,Nat.reduceMul,Int.reduceAdd,Int.reduceSub,Int.reduceMul,Int.reduceNeg,Int.reduceLE,Int.reduceLT,Int.reduceEq,Int.reduceToNat])
    | succ m ih =>
      intro p c i j out hp hi hj ho he
      apply hL
      simp only [L37_1, l37_1, ex,reduceIte,reduceCtorEq,Nat.reduceEqDiff,Nat.reduceLT,Nat.reduceLeDiff,Nat.reduceAdd,Nat.reduceSub,Nat.reduceMul,Int.reduceAdd,Int.reduceSub,Int.reduceMul,Int.reduceNeg,Int.reduceLE,Int.reduceLT,Int.reduceEq,Int.reduceToNat]
      have h1 : decide ((p : Int) < (l.length : Int)) = true := by simp; omega
      have g1 : l[p]? = some (l[p]'(by omega)) := List.getElem?_eq_getElem _
      have hb := hl.2 (l[p]'(by omega)) (List.getElem_mem _)
      rw [List.drop_eq_getElem_cons (by omega)] at he
      generalize hx : l[p]'(by omega) = e at g1 hb he
      rw [unch, ← List.append_assoc] at he
      have b1 := hb.1
      have b2 := hb.2.1
      have b3 := hb.2.2.1
      have b4 := hb.2.2.2
      rcases Nat.lt_or_ge i e.f with q | q
      · have h2 : decide ((e.f : Int) > (i : Int)) = true := by simp; omega
        have h3 : (e.f : Int) - (i : Int) = ((e.f - i : Nat) : Int) := by omega
        rw [if_pos q] at he
        have h9 := ih (p + 1) (c + 1) (e.f + e.d) (e.t + e.i) (out ++ [⟨i, j, e.f - i⟩]) (by omega) (by omega) (by omega) (by simp; omega) he
        rw [List.map_append] at h9
        (try simp only [h1, g1, edV, h2, h3, ex,reduceIte,reduceCtorEq,Nat.reduceEqDiff,Nat.reduceLT,Nat.reduceLeDiff,Nat.reduceAdd,Nat.reduceSub,Nat.reduceMul,Int.reduceAdd,Int.reduceSub,Int.reduceMul,Int.reduceNeg,Int.reduceLE,Int.reduceLT,Int.reduceEq,Int.reduceToNat]) <;> repeat ((with_reducible refine Req.intro ?_ ?_); (first | omega | (simp <;> omega)); try simp only [h1, g1, edV, h2, h3, ex,reduceIte,reduceCtorEq,Nat.reduceEqDiff,Nat.reduceLT,Nat.reduceLeDiff,Nat.reduceAdd,Nat.reduceSub,Nat.reduceMul,Int.reduceAdd,Int.reduceSub,Int.reduceMul,Int.reduceNeg,Int.reduceLE,Int.reduceLT,Int.reduceEq,Int.reduceToNat])
        exact h9
      · have h2 : decide ((e.f : Int) > (i : Int)) = false := by simp; omega
        rw [if_neg (by omega), List.append_nil] at he
        have h9 := ih (p + 1) (c + 1) (e.f + e.d) (e.t + e.i) out (by omega) (by omega) (by omega) (by omega) he
        (try simp only [h1, g1, edV, h2, ex,reduceIte,reduceCtorEq,Nat.reduceEqDiff,Nat.reduceLT,Nat.reduceLeDiff,Nat.reduceAdd,Nat.reduceSub,Nat.reduceMul,Int.reduceAdd,Int.reduceSub,Int.reduceMul,Int.reduceNeg,Int.reduceLE,Int.reduceLT,Int.reduceEq,Int.reduceToNat]) <;> repeat ((with_reducible refine Req.intro ?_ ?_); (first | omega | (simp <;> omega)); try simp only [h1, g1, edV, h2, ex,reduceIte,reduceCtorEq,Nat.reduceEqDiff,Nat.reduceLT,Nat.reduceLeDiff,Nat.reduceAdd,Nat.reduceSub,Nat.reduceMul,Int.reduceAdd,Int.reduceSub,Int.reduceMul,Int.reduceNeg,Int.reduceLE,Int.reduceLT,Int.reduceEq,Int.reduceToNat])
        exact h9
  exact key l.length 0 0 0 0 [] (Nat.zero_add _) (by omega) (by omega) (by simp) (by simp)

def cost (l : List Ed) : Nat := (l.map fun e => e.d + e.i).sum
theorem cost_le (l : List Ed) (h : SmallE l) (p : Nat) : cost (l.take p) ≤ 2000000 * p := by
  induction p with
  | zero => simp [cost]
  | succ p ih =>
    rw [List.take_add_one]
    cases hx : l[p]? with
    | none => simp only [Option.toList_none, List.append_nil]; omega
    | some e =>
      have hb := h.2 e (List.mem_of_getElem? hx)
      simp only [Option.toList_some, cost, List.map_append, List.sum_append, List.map_cons, List.map_nil, List.sum_cons, List.sum_nil] at ih ⊢
      omega
theorem stay_spec (o : Bool) (l : List Ed) (n : Nat) (hl : SmallE l) (hn : n ≤ 1000000) :
    Run tab 41 0 [.sl o 4 (l.map edV), .int .i64 n] [] 0 (fun r _ _ => r = .sl true 3 ((unch n l 0 0).map rnV)) := by
  refine enter (F := f41) rfl rfl ?_
  simp only [f41, ex,reduceIte,reduceCtorEq,Nat.reduceEqDiff,Nat.reduceLT,Nat.reduceLeDiff,Nat.reduceAdd,Nat.reduceSub,Nat.reduceMul,Int.reduceAdd,Int.reduceSub,Int.reduceMul,Int.reduceNeg,Int.reduceLE,Int.reduceLT,Int.reduceEq,Int.reduceToNat]
  (try simp only [ex,reduceIte,reduceCtorEq,Nat.reduceEqDiff,Nat.reduceLT,Nat.reduceLeDiff,Nat.reduceAdd,Nat.reduceSub,Nat.reduceMul,Int.reduceAdd,Int.reduceSub,Int.reduceMul,Int.reduceNeg,Int.reduceLE,Int.reduceLT,Int.reduceEq,Int.reduceToNat]) <;> repeat ((with_reducible refine Req.intro ?_ ?_); (first | omega | (simp <;> omega)); try simp only [ex,reduceIte,reduceCtorEq,Nat.reduceEqDiff,Nat.reduceLT,Nat.reduceLeDiff,Nat.reduceAdd,Nat.reduceSub,Nat.reduceMul,Int.reduceAdd,Int.reduceSub,Int.reduceMul,Int.reduceNeg,Int.reduceLE,Int.reduceLT,Int.reduceEq,Int.reduceToNat])
  refine loopI fun L hL => ?_
  (try simp only [ex,reduceIte,reduceCtorEq,Nat.reduceEqDiff,Nat.reduceLT,Nat.reduceLeDiff,Nat.reduceAdd,Nat.reduceSub,Nat.reduceMul,Int.reduceAdd,Int.reduceSub,Int.reduceMul,Int.reduceNeg,Int.reduceLE,Int.reduceLT,Int.reduceEq,Int.reduceToNat]) <;> repeat ((with_reducible refine Req.intro ?_ ?_); (first | omega | (simp <;> omega)); try simp only [ex,reduceIte,reduceCtorEq,Nat.reduceEqDiff,Nat.reduceLT,Nat.reduceLeDiff,Nat.reduceAdd,Nat.reduceSub,Nat.reduceMul,Int.reduceAdd,Int.reduceSub,Int.reduceMul,Int.reduceNeg,Int.reduceLE,Int.reduceLT,Int.reduceEq,Int.reduceToNat])
  have hlen := hl.1
  have key : ∀ (m p c i j : Nat) (out : List Rn), p + m = l.length → i ≤ 2000000 → j ≤ 2000000 → out.length ≤ p → out ++ unch n (l.drop p) i j = unch n l 0 0 →
      L (L41_1 (.sl o 4 (l.map edV)) (.int .i64 n) (.sl true 3 (out.map rnV)) (.int .i64 i) (.int .i64 j) (.int .i64 l.length) (.int .i64 p) [] c) := by
    intro m
    induction m with
    | zero =>
      intro p c i j out hp hi hj ho he
      apply hL
      simp only [L41_1, l41_1, ex,reduceIte,reduceCtorEq,Nat.reduceEqDiff,Nat.reduceLT,Nat.reduceLeDiff,Nat.reduceAdd,Nat.reduceSub,Nat.reduceMul,Int.reduceAdd,Int.reduceSub,Int.reduceMul,Int.reduceNeg,Int.reduceLE,Int.reduceLT,Int.reduceEq,Int.reduceToNat]
      have h1 : decide ((p : Int) < (l.length : Int)) = false := by simp; omega
      rw [List.drop_of_length_le (by omega), unch] at he
      rw [← he]
      rcases Nat.lt_or_ge i n with c | c
      · have h2 : decide ((n : Int) > (i : Int)) = true := by simp; omega
        have h3 : (n : Int) - (i : Int) = ((n - i : Nat) : Int) := by omega
        rw [if_pos c]
        (try simp only [h1, h2, h3, ex,reduceIte,reduceCtorEq,Nat.reduceEqDiff,Nat.reduceLT,Nat.reduceLeDiff,Nat.reduceAdd,Nat.reduceSub,Nat.reduceMul,Int.reduceAdd,Int.reduceSub,Int.reduceMul,Int.reduceNeg,Int.reduceLE,Int.reduceLT,Int.reduceEq,Int.reduceToNat]) <;> repeat ((with_reducible refine Req.intro ?_ ?_); (first | omega | (simp <;> omega)); try simp only [h1, h2, h3, ex,reduceIte,reduceCtorEq,Nat.reduceEqDiff,Nat.reduceLT,Nat.reduceLeDiff,Nat.reduceAdd,Nat.reduceSub,Nat.reduceMul,Int.reduceAdd,Int.reduceSub,Int.reduceMul,Int.reduceNeg,Int.reduceLE,Int.reduceLT,Int.reduceEq,Int.reduceToNat])
        simp [rnV]
      · have h2 : decide ((n : Int) > (i : Int)) = false := by simp; omega
        rw [if_neg (by omega)]
        (try simp only [h1, h2, List.append_nil, ex,reduceIte,reduceCtorEq,Nat.reduceEqDiff,Nat.reduceLT,Nat.reduceLeDiff,Nat.reduceAdd,Nat.reduceSub,Nat.reduceMul,Int.reduceAdd,Int.reduceSub,Int.reduceMul,Int.reduceNeg,Int.reduceLE,Int.reduceLT,Int.reduceEq,Int.reduceToNat]) <;> repeat ((with_reducible refine Req.intro ?_ ?_); (first | omega | (simp <;> omega)); try simp only [h1, h2, List.append_nil, ex,reduceIte,reduceCtorEq,Nat.reduceEqDiff,Nat.reduceLT,Nat.reduceLeDiff,Nat.reduceAdd,Nat.reduceSub,Nat.reduceMul,Int.reduceAdd,Int.reduceSub,Int.reduceMul,Int.reduceNeg,Int.reduceLE,Int.reduceLT,Int.reduceEq,Int.reduceToNat])
    | succ m ih =>
      intro p c i j out hp hi hj ho he
      apply hL
      simp only [L41_1, l41_1, ex,reduceIte,reduceCtorEq,Nat.reduceEqDiff,Nat.reduceLT,Nat.reduceLeDiff,Nat.reduceAdd,Nat.reduceSub,Nat.reduceMul,Int.reduceAdd,Int.reduceSub,Int.reduceMul,Int.reduceNeg,Int.reduceLE,Int.reduceLT,Int.reduceEq,Int.reduceToNat]
      have h1 : decide ((p : Int) < (l.length : Int)) = true := by simp; omega
      have g1 : l[p]? = some (l[p]'(by omega)) := List.getElem?_eq_getElem _
      have hb := hl.2 (l[p]'(by omega)) (List.getElem_mem _)
      rw [List.drop_eq_getElem_cons (by omega)] at he
      generalize hx : l[p]'(by omega) = e at g1 hb he
      rw [unch, ← List.append_assoc] at he
      have b1 := hb.1
      have b2 := hb.2.1
      have b3 := hb.2.2.1
      have b4 := hb.2.2.2
      rcases Nat.lt_or_ge i e.f with q | q
      · have h2 : decide ((e.f : Int) > (i : Int)) = true := by simp; omega
        have h3 : (e.f : Int) - (i : Int) = ((e.f - i : Nat) : Int) := by omega
        rw [if_pos q] at he
        have h9 := ih (p + 1) c (e.f + e.d) (e.t + e.i) (out ++ [⟨i, j, e.f - i⟩]) (by omega) (by omega) (by omega) (by simp; omega) he
        rw [List.map_append] at h9
        (try simp only [h1, g1, edV, h2, h3, ex,reduceIte,reduceCtorEq,Nat.reduceEqDiff,Nat.reduceLT,Nat.reduceLeDiff,Nat.reduceAdd,Nat.reduceSub,Nat.reduceMul,Int.reduceAdd,Int.reduceSub,Int.reduceMul,Int.reduceNeg,Int.reduceLE,Int.reduceLT,Int.reduceEq,Int.reduceToNat]) <;> repeat ((with_reducible refine Req.intro ?_ ?_); (first | omega | (simp <;> omega)); try simp only [h1, g1, edV, h2, h3, ex,reduceIte,reduceCtorEq,Nat.reduceEqDiff,Nat.reduceLT,Nat.reduceLeDiff,Nat.reduceAdd,Nat.reduceSub,Nat.reduceMul,Int.reduceAdd,Int.reduceSub,Int.reduceMul,Int.reduceNeg,Int.reduceLE,Int.reduceLT,Int.reduceEq,Int.reduceToNat])
        exact h9
      · have h2 : decide ((e.f : Int) > (i : Int)) = false := by simp; omega
        rw [if_neg (by omega), List.append_nil] at he
        have h9 := ih (p + 1) c (e.f + e.d) (e.t + e.i) out (by omega) (by omega) (by omega) (by omega) he
        (try simp only [h1, g1, edV, h2, ex,reduceIte,reduceCtorEq,Nat.reduceEqDiff,Nat.reduceLT,Nat.reduceLeDiff,Nat.reduceAdd,Nat.reduceSub,Nat.reduceMul,Int.reduceAdd,Int.reduceSub,Int.reduceMul,Int.reduceNeg,Int.reduceLE,Int.reduceLT,Int.reduceEq,Int.reduceToNat]) <;> repeat ((with_reducible refine Req.intro ?_ ?_); (first | omega | (simp <;> omega)); try simp only [h1, g1, edV, h2, ex,reduceIte,reduceCtorEq,Nat.reduceEqDiff,Nat.reduceLT,Nat.reduceLeDiff,Nat.reduceAdd,Nat.reduceSub,Nat.reduceMul,Int.reduceAdd,Int.reduceSub,Int.reduceMul,Int.reduceNeg,Int.reduceLE,Int.reduceLT,Int.reduceEq,Int.reduceToNat])
        exact h9
  exact key l.length 0 0 0 0 [] (Nat.zero_add _) (by omega) (by omega) (by simp) (by simp)

theorem cost_spec (o : Bool) (l : List Ed) (hl : SmallE l) : Run tab 18 0 [.sl o 4 (l.map edV)] [] 0 (fun r _ _ => r = .int .i64 (cost l : Nat)) := by
  refine enter (F := f18) rfl rfl ?_
  simp only [f18, ex,reduceIte,reduceCtorEq,Nat.reduceEqDiff,Nat.reduceLT,Nat.reduceLeDiff,Nat.reduceAdd,Nat.reduceSub,Nat.reduceMul,Int.reduceAdd,Int.reduceSub,Int.reduceMul,Int.reduceNeg,Int.reduceLE,Int.reduceLT,Int.reduceEq,Int.reduceToNat]
  (try simp only [ex,reduceIte,reduceCtorEq,Nat.reduceEqDiff,Nat.reduceLT,Nat.reduceLeDiff,Nat.reduceAdd,Nat.reduceSub,Nat.reduceMul,Int.reduceAdd,Int.reduceSub,Int.reduceMul,Int.reduceNeg,Int.reduceLE,Int.reduceLT,Int.reduceEq,Int.reduceToNat]) <;> repeat ((with_reducible refine Req.intro ?_ ?_); (first | omega | (simp <;> omega)); try simp only [ex,reduceIte,reduceCtorEq,Nat.reduceEqDiff,Nat.reduceLT,Nat.reduceLeDiff,Nat.reduceAdd,Nat.reduceSub,Nat.reduceMul,Int.reduceAdd,Int.reduceSub,Int.reduceMul,Int.reduceNeg,Int.reduceLE,Int.reduceLT,Int.reduceEq,Int.reduceToNat])
  refine loopI fun L hL => ?_
  (try simp only [ex,reduceIte,reduceCtorEq,Nat.reduceEqDiff,Nat.reduceLT,Nat.reduceLeDiff,Nat.reduceAdd,Nat.reduceSub,Nat.reduceMul,Int.reduceAdd,Int.reduceSub,Int.reduceMul,Int.reduceNeg,Int.reduceLE,Int.reduceLT,Int.reduceEq,Int.reduceToNat]) <;> repeat ((with_reducible refine Req.intro ?_ ?_); (first | omega | (simp <;> omega)); try simp only [ex,reduceIte,reduceCtorEq,Nat.reduceEqDiff,Nat.reduceLT,Nat.reduceLeDiff,Nat.reduceAdd,Nat.reduceSub,Nat.reduceMul,Int.reduceAdd,Int.reduceSub,Int.reduceMul,Int.reduceNeg,Int.reduceLE,Int.reduceLT,Int.reduceEq,Int.reduceToNat])
  have hlen := hl.1
  have key : ∀ (m p c : Nat), p + m = l.length → L (L18_1 (.int .i64 (cost (l.take p) : Nat)) (.sl o 4 (l.map edV)) (.int .i64 l.length) (.int .i64 p) [] c) := by
    intro m
    induction m with
    | zero =>
      intro p c hp
      apply hL
      simp only [L18_1, l18_1, ex,reduceIte,reduceCtorEq,Nat.reduceEqDiff,Nat.reduceLT,Nat.reduceLeDiff,Nat.reduceAdd,Nat.reduceSub,Nat.reduceMul,Int.reduceAdd,Int.reduceSub,Int.reduceMul,Int.reduceNeg,Int.reduceLE,Int.reduceLT,Int.reduceEq,Int.reduceToNat]
      have h1 : decide ((p : Int) < (l.length : Int)) = false := by simp; omega
      (try simp only [h1, ex,reduceIte,reduceCtorEq,Nat.reduceEqDiff,Nat.reduceLT,Nat.reduceLeDiff,Nat.reduceAdd,Nat.reduceSub,Nat.reduceMul,Int.reduceAdd,Int.reduceSub,Int.reduceMul,Int.reduceNeg,Int.reduceLE,Int.reduceLT,Int.reduceEq,Int.reduceToNat]) <;> repeat ((with_reducible refine Req.intro ?_ ?_); (first | omega | (simp <;> omega)); try simp only [h1, ex,reduceIte,reduceCtorEq,Nat.reduceEqDiff,Nat.reduceLT,Nat.reduceLeDiff,Nat.reduceAdd,Nat.reduceSub,Nat.reduceMul,Int.reduceAdd,Int.reduceSub,Int.reduceMul,Int.reduceNeg,Int.reduceLE,Int.reduceLT,Int.reduceEq,Int.reduceToNat])
      rw [List.take_of_length_le (by omega)]
    | succ m ih =>
      intro p c hp
      apply hL
      simp only [L18_1, l18_1, ex,reduceIte,reduceCtorEq,Nat.reduceEqDiff,Nat.reduceLT,Nat.reduceLeDiff,Nat.reduceAdd,Nat.reduceSub,Nat.reduceMul,Int.reduceAdd,Int.reduceSub,Int.reduceMul,Int.reduceNeg,Int.reduceLE,Int.reduceLT,Int.reduceEq,Int.reduceToNat]
      have h1 : decide ((p : Int) < (l.length : Int)) = true := by simp; omega
      have g1 : l[p]? = some (l[p]'(by omega)) := List.getElem?_eq_getElem _
      have hb := hl.2 (l[p]'(by omega)) (List.getElem_mem _)
      generalize hx : l[p]'(by omega) = e at g1 hb
      have b1 := hb.2.1
      have b2 := hb.2.2.2
      have hc := cost_le l hl p
      have h9 := ih (p + 1) (c + 1) (by omega)
      rw [List.take_add_one, g1] at h9
      have hs : cost (l.take p ++ (some e).toList) = cost (l.take p) + (e.d + e.i) := by simp [cost]
      rw [hs] at h9
      (try simp only [h1, g1, edV, ex,reduceIte,reduceCtorEq,Nat.reduceEqDiff,Nat.reduceLT,Nat.reduceLeDiff,Nat.reduceAdd,Nat.reduceSub,Nat.reduceMul,Int.reduceAdd,Int.reduceSub,Int.reduceMul,Int.reduceNeg,Int.reduceLE,Int.reduceLT,Int.reduceEq,Int.reduceToNat]) <;> repeat ((with_reducible refine Req.intro ?_ ?_); (first | omega | (simp <;> omega)); try simp only [h1, g1, edV, ex,reduceIte,reduceCtorEq,Nat.reduceEqDiff,Nat.reduceLT,Nat.reduceLeDiff,Nat.reduceAdd,Nat.reduceSub,Nat.reduceMul,Int.reduceAdd,Int.reduceSub,Int.reduceMul,Int.reduceNeg,Int.reduceLE,Int.reduceLT,Int.reduceEq,Int.reduceToNat])
      exact h9
  exact key l.length 0 0 (Nat.zero_add _)
end Go.Proofs.Ytmmcepbcjlopdaa.E.Hs

/- Edits out of runs: graftageref08.Of and diff.FromRuns, walked at runs that fit. Conditions: none. -/
namespace Go.Proofs.Ytmmcepbcjlopdaa.E.Hs
set_option linter.unusedVariables false
set_option linter.unusedSimpArgs false
set_option maxHeartbeats 20000000
set_option maxRecDepth 100000

/-- Runs that lie one behind the other within n and m. -/
def FitR (n m : Nat) : List Rn → Nat → Nat → Prop
  | [], i, j => i ≤ n ∧ j ≤ m
  | r :: l, i, j => 1 ≤ r.N ∧ i ≤ r.A ∧ j ≤ r.B ∧ r.A + r.N ≤ n ∧ r.B + r.N ≤ m ∧ FitR n m l (r.A + r.N) (r.B + r.N)
def gap (i j a b : Nat) : List Ed := if i < a ∨ j < b then [⟨i, a - i, j, b - j⟩] else []
/-- The edits between them. -/
def edsOf (n m : Nat) : List Rn → Nat → Nat → List Ed
  | [], i, j => gap i j n m
  | r :: l, i, j => gap i j r.A r.B ++ edsOf n m l (r.A + r.N) (r.B + r.N)

theorem of_spec (o : Bool) (l : List Rn) (n m : Nat) (hl : FitR n m l 0 0) (hlen : l.length ≤ 1000000) (hn : n ≤ 1000000) (hm : m ≤ 1000000) :
    Run tab 26 0 [.int .i64 n, .int .i64 m, .sl o 3 (l.map rnV)] [] 0 (fun r _ _ => r = .sl true 4 ((edsOf n m l 0 0).map edV)) := by
  refine enter (F := f26) rfl rfl ?_
  simp only [f26, ex,reduceIte,reduceCtorEq,Nat.reduceEqDiff,Nat.reduceLT,Nat.reduceLeDiff,Nat.reduceAdd,Nat.reduceSub,Nat.reduceMul,Int.reduceAdd,Int.reduceSub,Int.reduceMul,Int.reduceNeg,Int.reduceLE,Int.reduceLT,Int.reduceEq,Int.reduceToNat]
  have z1 : decide ((n : Int) < 0) = false := by simp
  have z2 : decide ((m : Int) < 0) = false := by simp
  (try simp only [z1, z2, ex,reduceIte,reduceCtorEq,Nat.reduceEqDiff,Nat.reduceLT,Nat.reduceLeDiff,Nat.reduceAdd,Nat.reduceSub,Nat.reduceMul,Int.reduceAdd,Int.reduceSub,Int.reduceMul,Int.reduceNeg,Int.reduceLE,Int.reduceLT,Int.reduceEq,Int.reduceToNat]) <;> repeat ((with_reducible refine Req.intro ?_ ?_); (first | omega | (simp <;> omega)); try simp only [z1, z2, ex,reduceIte,reduceCtorEq,Nat.reduceEqDiff,Nat.reduceLT,Nat.reduceLeDiff,Nat.reduceAdd,Nat.reduceSub,Nat.reduceMul,Int.reduceAdd,Int.reduceSub,Int.reduceMul,Int.reduceNeg,Int.reduceLE,Int.reduceLT,Int.reduceEq,Int.reduceToNat])
  refine loopI fun L hL => ?_
  (try simp only [ex,reduceIte,reduceCtorEq,Nat.reduceEqDiff,Nat.reduceLT,Nat.reduceLeDiff,Nat.reduceAdd,Nat.reduceSub,Nat.reduceMul,Int.reduceAdd,Int.reduceSub,Int.reduceMul,Int.reduceNeg,Int.reduceLE,Int.reduceLT,Int.reduceEq,Int.reduceToNat]) <;> repeat ((with_reducible refine Req.intro ?_ ?_); (first | omega | (simp <;> omega)); try simp only [ex,reduceIte,reduceCtorEq,Nat.reduceEqDiff,Nat.reduceLT,Nat.reduceLeDiff,Nat.reduceAdd,Nat.reduceSub,Nat.reduceMul,Int.reduceAdd,Int.reduceSub,Int.reduceMul,Int.reduceNeg,Int.reduceLE,Int.reduceLT,Int.reduceEq,Int.reduceToNat])
  have key : ∀ (q p c i j : Nat) (out : List Ed), p + q = l.length → FitR n m (l.drop p) i j → i ≤ n → j ≤ m → out.length ≤ p → out ++ edsOf n m (l.drop p) i j = edsOf n m l 0 0 →
      L (L26_1 (.int .i64 n) (.int .i64 m) (.sl o 3 (l.map rnV)) (.sl true 4 (out.map edV)) (.int .i64 i) (.int .i64 j) (.int .i64 l.length) (.int .i64 p) [] c) := by
    intro q
    induction q with
    | zero =>
      intro p c i j out hp hf hi hj ho he
      apply hL
      simp only [L26_1, l26_1, ex,reduceIte,reduceCtorEq,Nat.reduceEqDiff,Nat.reduceLT,Nat.reduceLeDiff,Nat.reduceAdd,Nat.reduceSub,Nat.reduceMul,Int.reduceAdd,Int.reduceSub,Int.reduceMul,Int.reduceNeg,Int.reduceLE,Int.reduceLT,Int.reduceEq,Int.reduceToNat]
      have h1 : decide ((p : Int) < (l.length : Int)) = false := by simp; omega
      rw [List.drop_of_length_le (by omega), edsOf, gap] at he
      rw [← he]
      have h4 : (n : Int) - (i : Int) = ((n - i : Nat) : Int) := by omega
      have h5 : (m : Int) - (j : Int) = ((m - j : Nat) : Int) := by omega
      rcases Nat.lt_or_ge i n with c1 | c1
      · have h2 : decide ((n : Int) > (i : Int)) = true := by simp; omega
        rw [if_pos (.inl c1)]
        (try simp only [h1, h2, h4, h5, ex,reduceIte,reduceCtorEq,Nat.reduceEqDiff,Nat.reduceLT,Nat.reduceLeDiff,Nat.reduceAdd,Nat.reduceSub,Nat.reduceMul,Int.reduceAdd,Int.reduceSub,Int.reduceMul,Int.reduceNeg,Int.reduceLE,Int.reduceLT,Int.reduceEq,Int.reduceToNat]) <;> repeat ((with_reducible refine Req.intro ?_ ?_); (first | omega | (simp <;> omega)); try simp only [h1, h2, h4, h5, ex,reduceIte,reduceCtorEq,Nat.reduceEqDiff,Nat.reduceLT,Nat.reduceLeDiff,Nat.reduceAdd,Nat.reduceSub,Nat.reduceMul,Int.reduceAdd,Int.reduceSub,Int.reduceMul,Int.reduceNeg,Int.reduceLE,Int.reduceLT,Int.reduceEq,Int.reduceToNat])
        simp [edV]
      · have h2 : decide ((n : Int) > (i : Int)) = false := by simp; omega
        rcases Nat.lt_or_ge j m with c2 | c2
        · have h3 : decide ((m : Int) > (j : Int)) = true := by simp; omega
          rw [if_pos (.inr c2)]
          (try simp only [h1, h2, h3, h4, h5, ex,reduceIte,reduceCtorEq,Nat.reduceEqDiff,Nat.reduceLT,Nat.reduceLeDiff,Nat.reduceAdd,Nat.reduceSub,Nat.reduceMul,Int.reduceAdd,Int.reduceSub,Int.reduceMul,Int.reduceNeg,Int.reduceLE,Int.reduceLT,Int.reduceEq,Int.reduceToNat]) <;> repeat ((with_reducible refine Req.intro ?_ ?_); (first | omega | (simp <;> omega)); try simp only [h1, h2, h3, h4, h5, ex,reduceIte,reduceCtorEq,Nat.reduceEqDiff,Nat.reduceLT,Nat.reduceLeDiff,Nat.reduceAdd,Nat.reduceSub,Nat.reduceMul,Int.reduceAdd,Int.reduceSub,Int.reduceMul,Int.reduceNeg,Int.reduceLE,Int.reduceLT,Int.reduceEq,Int.reduceToNat])
          simp [edV]
        · have h3 : decide ((m : Int) > (j : Int)) = false := by simp; omega
          rw [if_neg (by omega), List.append_nil]
          (try simp only [h1, h2, h3, ex,reduceIte,reduceCtorEq,Nat.reduceEqDiff,Nat.reduceLT,Nat.reduceLeDiff,Nat.reduceAdd,Nat.reduceSub,Nat.reduceMul,Int.reduceAdd,Int.reduceSub,Int.reduceMul,Int.reduceNeg,Int.reduceLE,Int.reduceLT,Int.reduceEq,Int.reduceToNat]) <;> repeat ((with_reducible refine Req.intro ?_ ?_); (first | omega | (simp <;> omega)); try simp only [h1, h2, h3, ex,reduceIte,reduceCtorEq,Nat.reduceEqDiff,Nat.reduceLT,Nat.reduceLeDiff,Nat.reduceAdd,Nat.reduceSub,Nat.reduceMul,Int.reduceAdd,Int.reduceSub,Int.reduceMul,Int.reduceNeg,Int.reduceLE,Int.reduceLT,Int.reduceEq,Int.reduceToNat])
    | succ q ih =>
      intro p c i j out hp hf hi hj ho he
      apply hL
      simp only [L26_1, l26_1, ex,reduceIte,reduceCtorEq,Nat.reduceEqDiff,Nat.reduceLT,Nat.reduceLeDiff,Nat.reduceAdd,Nat.reduceSub,Nat.reduceMul,Int.reduceAdd,Int.reduceSub,Int.reduceMul,Int.reduceNeg,Int.reduceLE,Int.reduceLT,Int.reduceEq,Int.reduceToNat]
      have h1 : decide ((p : Int) < (l.length : Int)) = true := by simp; omega
      have g1 : l[p]? = some (l[p]'(by omega)) := List.getElem?_eq_getElem _
      rw [List.drop_eq_getElem_cons (by omega)] at he hf
      generalize hx : l[p]'(by omega) = r at g1 hf he
      rw [edsOf, ← List.append_assoc, gap] at he
      have f1 := hf.1
      have f2 := hf.2.1
      have f3 := hf.2.2.1
      have f4 := hf.2.2.2.1
      have f5 := hf.2.2.2.2.1
      have f6 := hf.2.2.2.2.2
      have u1 : decide ((r.N : Int) < 1) = false := by simp; omega
      have u2 : decide ((r.A : Int) < (i : Int)) = false := by simp; omega
      have u3 : decide ((r.B : Int) < (j : Int)) = false := by simp; omega
      have u4 : decide ((r.A : Int) > (n : Int)) = false := by simp; omega
      have u5 : decide ((r.B : Int) > (m : Int)) = false := by simp; omega
      have u6 : decide ((r.N : Int) > (n : Int) - (r.A : Int)) = false := by simp; omega
      have u7 : decide ((r.N : Int) > (m : Int) - (r.B : Int)) = false := by simp; omega
      have h4 : (r.A : Int) - (i : Int) = ((r.A - i : Nat) : Int) := by omega
      have h5 : (r.B : Int) - (j : Int) = ((r.B - j : Nat) : Int) := by omega
      rcases Nat.lt_or_ge i r.A with c1 | c1
      · have h2 : decide ((r.A : Int) > (i : Int)) = true := by simp; omega
        rw [if_pos (.inl c1)] at he
        have h9 := ih (p + 1) (c + 1) (r.A + r.N) (r.B + r.N) (out ++ [⟨i, r.A - i, j, r.B - j⟩]) (by omega) f6 f4 f5 (by simp; omega) he
        rw [List.map_append] at h9
        (try simp only [h1, g1, rnV, u1, u2, u3, u4, u5, u6, u7, h2, h4, h5, ex,reduceIte,reduceCtorEq,Nat.reduceEqDiff,Nat.reduceLT,Nat.reduceLeDiff,Nat.reduceAdd,Nat.reduceSub,Nat.reduceMul,Int.reduceAdd,Int.reduceSub,Int.reduceMul,Int.reduceNeg,Int.reduceLE,Int.reduceLT,Int.reduceEq,Int.reduceToNat]) <;> repeat ((with_reducible refine Req.intro ?_ ?_); (first | omega | (simp <;> omega)); try simp only [h1, g1, rnV, u1, u2, u3, u4, u5, u6, u7, h2, h4, h5, ex,reduceIte,reduceCtorEq,Nat.reduceEqDiff,Nat.reduceLT,Nat.reduceLeDiff,Nat.reduceAdd,Nat.reduceSub,Nat.reduceMul,Int.reduceAdd,Int.reduceSub,Int.reduceMul,Int.reduceNeg,Int.reduceLE,Int.reduceLT,Int.reduceEq,Int.reduceToNat])
        exact h9
      · have h2 : decide ((r.A : Int) > (i : Int)) = false := by simp; omega
        rcases Nat.lt_or_ge j r.B with c2 | c2
        · have h3 : decide ((r.B : Int) > (j : Int)) = true := by simp; omega
          rw [if_pos (.inr c2)] at he
          have h9 := ih (p + 1) (c + 1) (r.A + r.N) (r.B + r.N) (out ++ [⟨i, r.A - i, j, r.B - j⟩]) (by omega) f6 f4 f5 (by simp; omega) he
          rw [List.map_append] at h9
          (try simp only [h1, g1, rnV, u1, u2, u3, u4, u5, u6, u7, h2, h3, h4, h5, ex,reduceIte,reduceCtorEq,Nat.reduceEqDiff,Nat.reduceLT,Nat.reduceLeDiff,Nat.reduceAdd,Nat.reduceSub,Nat.reduceMul,Int.reduceAdd,Int.reduceSub,Int.reduceMul,Int.reduceNeg,Int.reduceLE,Int.reduceLT,Int.reduceEq,Int.reduceToNat]) <;> repeat ((with_reducible refine Req.intro ?_ ?_); (first | omega | (simp <;> omega)); try simp only [h1, g1, rnV, u1, u2, u3, u4, u5, u6, u7, h2, h3, h4, h5, ex,reduceIte,reduceCtorEq,Nat.reduceEqDiff,Nat.reduceLT,Nat.reduceLeDiff,Nat.reduceAdd,Nat.reduceSub,Nat.reduceMul,Int.reduceAdd,Int.reduceSub,Int.reduceMul,Int.reduceNeg,Int.reduceLE,Int.reduceLT,Int.reduceEq,Int.reduceToNat])
          exact h9
        · have h3 : decide ((r.B : Int) > (j : Int)) = false := by simp; omega
          rw [if_neg (by omega), List.append_nil] at he
          have h9 := ih (p + 1) (c + 1) (r.A + r.N) (r.B + r.N) out (by omega) f6 f4 f5 (by omega) he
          (try simp only [h1, g1, rnV, u1, u2, u3, u4, u5, u6, u7, h2, h3, ex,reduceIte,reduceCtorEq,Nat.reduceEqDiff,Nat.reduceLT,Nat.reduceLeDiff,Nat.reduceAdd,Nat.reduceSub,Nat.reduceMul,Int.reduceAdd,Int.reduceSub,Int.reduceMul,Int.reduceNeg,Int.reduceLE,Int.reduceLT,Int.reduceEq,Int.reduceToNat]) <;> repeat ((with_reducible refine Req.intro ?_ ?_); (first | omega | (simp <;> omega)); try simp only [h1, g1, rnV, u1, u2, u3, u4, u5, u6, u7, h2, h3, ex,reduceIte,reduceCtorEq,Nat.reduceEqDiff,Nat.reduceLT,Nat.reduceLeDiff,Nat.reduceAdd,Nat.reduceSub,Nat.reduceMul,Int.reduceAdd,Int.reduceSub,Int.reduceMul,Int.reduceNeg,Int.reduceLE,Int.reduceLT,Int.reduceEq,Int.reduceToNat])
          exact h9
  exact key l.length 0 0 0 0 [] (Nat.zero_add _) hl (Nat.zero_le _) (Nat.zero_le _) (by simp) (by simp)
end Go.Proofs.Ytmmcepbcjlopdaa.E.Hs

/- Least scripts in plain lists: alignments, the greedy one, its script, the runs that stay. Conditions: none. -/
namespace Go.Proofs.Ytmmcepbcjlopdaa.E.Hs
set_option linter.unusedVariables false
set_option linter.unusedSimpArgs false
set_option maxHeartbeats 20000000

section
variable {α : Type} [DecidableEq α]
theorem lcs_le_both : ∀ n (a b : List α), a.length + b.length ≤ n → (∀ x, lcs a b ≤ lcs (x :: a) b ∧ lcs (x :: a) b ≤ lcs a b + 1) ∧ (∀ y, lcs a b ≤ lcs a (y :: b) ∧ lcs a (y :: b) ≤ lcs a b + 1) := by
  intro n
  induction n with
  | zero =>
    intro a b h
    have ha : a = [] := List.eq_nil_of_length_eq_zero (by omega)
    have hb : b = [] := List.eq_nil_of_length_eq_zero (by omega)
    subst ha hb
    exact ⟨fun x => by simp [lcs_nil2], fun y => by simp [lcs_nil]⟩
  | succ n ih =>
    intro a b h
    refine ⟨fun x => ?_, fun y => ?_⟩
    · cases b with
      | nil => simp [lcs_nil2]
      | cons y b =>
        have hb := (ih a b (by simp at h; omega)).2 y
        by_cases e : x = y
        · subst e
          rw [lcs_same]
          omega
        · rw [lcs_ne e]
          have hx := (ih a b (by simp at h; omega)).1 x
          omega
    · cases a with
      | nil => simp [lcs_nil]
      | cons x a =>
        have ha := (ih a b (by simp at h; omega)).1 x
        by_cases e : x = y
        · subst e
          rw [lcs_same]
          omega
        · rw [lcs_ne e]
          have hy := (ih a b (by simp at h; omega)).2 y
          omega
theorem lcs_left (x : α) (a b : List α) : lcs a b ≤ lcs (x :: a) b := ((lcs_le_both _ a b (Nat.le_refl _)).1 x).1
theorem lcs_right (y : α) (a b : List α) : lcs a b ≤ lcs a (y :: b) := ((lcs_le_both _ a b (Nat.le_refl _)).2 y).1
/-- What becomes of a line: it stays, goes, or comes. -/
inductive Op where
  | K | D | I
deriving DecidableEq
/-- An alignment of two lists. -/
inductive Al : List α → List α → List Op → Prop where
  | nil : Al [] [] []
  | keep (x : α) {a b : List α} {o : List Op} (h : Al a b o) : Al (x :: a) (x :: b) (Op.K :: o)
  | del (x : α) {a b : List α} {o : List Op} (h : Al a b o) : Al (x :: a) b (Op.D :: o)
  | ins (y : α) {a b : List α} {o : List Op} (h : Al a b o) : Al a (y :: b) (Op.I :: o)
def kept (o : List Op) : Nat := o.countP (· == Op.K)
def paid (o : List Op) : Nat := o.countP (· != Op.K)
theorem kept_K (o : List Op) : kept (Op.K :: o) = kept o + 1 := by simp [kept]
theorem kept_D (o : List Op) : kept (Op.D :: o) = kept o := by simp [kept]
theorem kept_I (o : List Op) : kept (Op.I :: o) = kept o := by simp [kept]
theorem paid_K (o : List Op) : paid (Op.K :: o) = paid o := by simp [paid]
theorem paid_D (o : List Op) : paid (Op.D :: o) = paid o + 1 := by simp [paid]
theorem paid_I (o : List Op) : paid (Op.I :: o) = paid o + 1 := by simp [paid]
omit [DecidableEq α] in
theorem Al.lens {a b : List α} {o : List Op} (h : Al a b o) : paid o + 2 * kept o = a.length + b.length := by
  induction h with
  | nil => simp [paid, kept]
  | keep x h ih => rw [kept_K, paid_K]; simp only [List.length_cons]; omega
  | del x h ih => rw [kept_D, paid_D]; simp only [List.length_cons]; omega
  | ins y h ih => rw [kept_I, paid_I]; simp only [List.length_cons]; omega
theorem Al.best {a b : List α} {o : List Op} (h : Al a b o) : kept o ≤ lcs a b := by
  induction h with
  | nil => simp [kept]
  | keep x h ih => rw [kept_K, lcs_same]; omega
  | @del x a b o h ih => rw [kept_D]; exact Nat.le_trans ih (lcs_left x a b)
  | @ins y a b o h ih => rw [kept_I]; exact Nat.le_trans ih (lcs_right y a b)
/-- The alignment that one rule tells. -/
def greedy : List α → List α → List Op
  | [], [] => []
  | _ :: a, [] => Op.D :: greedy a []
  | [], _ :: b => Op.I :: greedy [] b
  | x :: a, y :: b => if x = y then Op.K :: greedy a b else if lcs (x :: a) b ≤ lcs a (y :: b) then Op.D :: greedy a (y :: b) else Op.I :: greedy (x :: a) b
termination_by a b => a.length + b.length
theorem greedy_al : ∀ n (a b : List α), a.length + b.length ≤ n → Al a b (greedy a b) ∧ kept (greedy a b) = lcs a b := by
  intro n
  induction n with
  | zero =>
    intro a b h
    have ha : a = [] := List.eq_nil_of_length_eq_zero (by omega)
    have hb : b = [] := List.eq_nil_of_length_eq_zero (by omega)
    subst ha hb
    rw [greedy]
    exact ⟨Al.nil, by simp [kept, lcs_nil]⟩
  | succ n ih =>
    intro a b h
    cases a with
    | nil =>
      cases b with
      | nil => rw [greedy]; exact ⟨Al.nil, by simp [kept, lcs_nil]⟩
      | cons y b =>
        have := ih [] b (by simp at h ⊢; omega)
        rw [greedy, kept_I, this.2]
        exact ⟨Al.ins y this.1, by rw [lcs_nil, lcs_nil]⟩
    | cons x a =>
      cases b with
      | nil =>
        have := ih a [] (by simp at h ⊢; omega)
        rw [greedy, kept_D, this.2]
        exact ⟨Al.del x this.1, by rw [lcs_nil2, lcs_nil2]⟩
      | cons y b =>
        simp only [List.length_cons] at h
        rw [greedy]
        by_cases e : x = y
        · subst e
          have := ih a b (by omega)
          rw [if_pos rfl, kept_K, lcs_same, this.2]
          exact ⟨Al.keep x this.1, rfl⟩
        · rw [if_neg e, lcs_ne e]
          by_cases c : lcs (x :: a) b ≤ lcs a (y :: b)
          · have := ih a (y :: b) (by simp; omega)
            rw [if_pos c, kept_D, this.2]
            exact ⟨Al.del x this.1, by omega⟩
          · have := ih (x :: a) b (by simp; omega)
            rw [if_neg c, kept_I, this.2]
            exact ⟨Al.ins y this.1, by omega⟩
theorem greedy_is (a b : List α) : Al a b (greedy a b) := (greedy_al _ a b (Nat.le_refl _)).1
theorem greedy_kept (a b : List α) : kept (greedy a b) = lcs a b := (greedy_al _ a b (Nat.le_refl _)).2
theorem greedy_end {a b : List α} {i j : Nat} (h1 : a.length ≤ i) (h2 : b.length ≤ j) : greedy (a.drop i) (b.drop j) = [] := by
  rw [List.drop_of_length_le h1, List.drop_of_length_le h2, greedy]
theorem greedy_K {a b : List α} {i j : Nat} {x : α} (h1 : a[i]? = some x) (h2 : b[j]? = some x) : greedy (a.drop i) (b.drop j) = .K :: greedy (a.drop (i + 1)) (b.drop (j + 1)) := by
  obtain ⟨l1, e1⟩ := List.getElem?_eq_some_iff.1 h1
  obtain ⟨l2, e2⟩ := List.getElem?_eq_some_iff.1 h2
  rw [List.drop_eq_getElem_cons l1, List.drop_eq_getElem_cons l2, e1, e2, greedy, if_pos rfl]
theorem greedy_D0 {a b : List α} {i j : Nat} (h1 : i < a.length) (h2 : b.length ≤ j) : greedy (a.drop i) (b.drop j) = .D :: greedy (a.drop (i + 1)) (b.drop j) := by
  rw [List.drop_eq_getElem_cons h1, List.drop_of_length_le h2, greedy]
theorem greedy_I0 {a b : List α} {i j : Nat} (h1 : a.length ≤ i) (h2 : j < b.length) : greedy (a.drop i) (b.drop j) = .I :: greedy (a.drop i) (b.drop (j + 1)) := by
  rw [List.drop_of_length_le h1, List.drop_eq_getElem_cons h2, greedy]
theorem greedy_D {a b : List α} {i j : Nat} {x y : α} (h1 : a[i]? = some x) (h2 : b[j]? = some y) (h : x ≠ y) (hc : ent a b i (j + 1) ≤ ent a b (i + 1) j) : greedy (a.drop i) (b.drop j) = .D :: greedy (a.drop (i + 1)) (b.drop j) := by
  obtain ⟨l1, e1⟩ := List.getElem?_eq_some_iff.1 h1
  obtain ⟨l2, e2⟩ := List.getElem?_eq_some_iff.1 h2
  unfold ent at hc
  rw [List.drop_eq_getElem_cons l1, List.drop_eq_getElem_cons l2] at hc
  rw [List.drop_eq_getElem_cons l1, List.drop_eq_getElem_cons l2, greedy, if_neg (by rw [e1, e2]; exact h), if_pos hc]
theorem greedy_I {a b : List α} {i j : Nat} {x y : α} (h1 : a[i]? = some x) (h2 : b[j]? = some y) (h : x ≠ y) (hc : ¬ ent a b i (j + 1) ≤ ent a b (i + 1) j) : greedy (a.drop i) (b.drop j) = .I :: greedy (a.drop i) (b.drop (j + 1)) := by
  obtain ⟨l1, e1⟩ := List.getElem?_eq_some_iff.1 h1
  obtain ⟨l2, e2⟩ := List.getElem?_eq_some_iff.1 h2
  unfold ent at hc
  rw [List.drop_eq_getElem_cons l1, List.drop_eq_getElem_cons l2] at hc
  rw [List.drop_eq_getElem_cons l1, List.drop_eq_getElem_cons l2, greedy, if_neg (by rw [e1, e2]; exact h), if_neg hc]
theorem greedy_len (a b : List α) : (greedy a b).length ≤ a.length + b.length := by
  have h := (greedy_is a b).lens
  have : (greedy a b).length = kept (greedy a b) + paid (greedy a b) := by
    unfold kept paid
    have := List.length_eq_countP_add_countP (fun q => q == Op.K) (l := greedy a b)
    rw [this]
    congr 1
    apply List.countP_congr
    intro q _
    cases q <;> simp
  omega
end
/-- The script of an alignment: 'cur' is the edit that is under way. -/
def scr : List Op → Nat → Nat → Option Ed → List Ed
  | [], _, _, cur => cur.toList
  | Op.K :: o, i, j, cur => cur.toList ++ scr o (i + 1) (j + 1) none
  | Op.D :: o, i, j, none => scr o (i + 1) j (some ⟨i, 1, j, 0⟩)
  | Op.D :: o, i, j, some e => scr o (i + 1) j (some ⟨e.f, e.d + 1, e.t, e.i⟩)
  | Op.I :: o, i, j, none => scr o i (j + 1) (some ⟨i, 0, j, 1⟩)
  | Op.I :: o, i, j, some e => scr o i (j + 1) (some ⟨e.f, e.d, e.t, e.i + 1⟩)
def leastEd (a b : List S) : List Ed := if 4096 < a.length ∨ 4096 < b.length then (if a = b then [] else [⟨0, a.length, 0, b.length⟩]) else scr (greedy a b) 0 0 none
theorem scr_keeps (p : Nat) (o : List Op) : ∀ (i j : Nat), scr (List.replicate p Op.K ++ o) i j none = scr o (i + p) (j + p) none := by
  induction p with
  | zero => intro i j; simp
  | succ p ih =>
    intro i j
    rw [List.replicate_succ, List.cons_append, scr, ih]
    simp only [Option.toList_none, List.nil_append]
    congr 1 <;> omega
theorem greedy_pre : ∀ (a b : List S), greedy a b = List.replicate (lcp a b) Op.K ++ greedy (a.drop (lcp a b)) (b.drop (lcp a b))
  | [], b => by simp [lcp]
  | x :: a, [] => by simp [lcp]
  | x :: a, y :: b => by
    rw [lcp]
    by_cases e : x = y
    · rw [if_pos e, greedy, if_pos e, List.replicate_succ, List.cons_append, List.drop_succ_cons, List.drop_succ_cons, ← greedy_pre a b]
    · rw [if_neg e]
      rfl
theorem scr_pre (a b : List S) : scr (greedy a b) 0 0 none = scr (greedy (a.drop (lcp a b)) (b.drop (lcp a b))) (lcp a b) (lcp a b) none := by
  conv => lhs; rw [greedy_pre, scr_keeps, Nat.zero_add]
theorem cost_app (l l' : List Ed) : cost (l ++ l') = cost l + cost l' := by simp [cost]
theorem scr_cost : ∀ (o : List Op) (i j : Nat) (cur : Option Ed), cost (scr o i j cur) = paid o + cost cur.toList := by
  intro o
  induction o with
  | nil => intro i j cur; simp [scr, paid]
  | cons q o ih =>
    intro i j cur
    cases q with
    | K => rw [scr, paid_K, cost_app, ih]; simp [cost]; omega
    | D => cases cur <;> (rw [scr, paid_D, ih]; simp [cost] <;> omega)
    | I => cases cur <;> (rw [scr, paid_I, ih]; simp [cost] <;> omega)
theorem cost_greedy (a b : List S) : cost (scr (greedy a b) 0 0 none) + 2 * lcs a b = a.length + b.length := by
  have := (greedy_is a b).lens
  rw [greedy_kept] at this
  rw [scr_cost]
  simp [cost]; omega
theorem scr_small (M : Nat) : ∀ (o : List Op) (i j : Nat) (cur : Option Ed), i + o.length ≤ M → j + o.length ≤ M → (∀ e ∈ cur, e.f + e.d ≤ i ∧ e.t + e.i ≤ j) → (∀ e ∈ scr o i j cur, e.f + e.d ≤ M ∧ e.t + e.i ≤ M) ∧ (scr o i j cur).length ≤ o.length + cur.toList.length := by
  intro o
  induction o with
  | nil =>
    intro i j cur h h' hc
    refine ⟨fun e he => ?_, ?_⟩
    · have := hc e (by simpa [scr] using he); omega
    · simp [scr]
  | cons q o ih =>
    intro i j cur h h' hc
    simp only [List.length_cons] at h h' ⊢
    cases q with
    | K =>
      have h9 := ih (i + 1) (j + 1) none (by omega) (by omega) (by simp)
      rw [scr]
      refine ⟨fun e he => ?_, ?_⟩
      · rcases List.mem_append.1 he with he | he
        · have := hc e (by simpa using he); omega
        · exact h9.1 e he
      · have := h9.2
        simp at this ⊢; omega
    | D =>
      cases cur with
      | none =>
        have h9 := ih (i + 1) j (some ⟨i, 1, j, 0⟩) (by omega) (by omega) (by simp)
        rw [scr]
        exact ⟨h9.1, by have := h9.2; simp at this ⊢; omega⟩
      | some e =>
        have := hc e rfl
        have h9 := ih (i + 1) j (some ⟨e.f, e.d + 1, e.t, e.i⟩) (by omega) (by omega) (by simp; omega)
        rw [scr]
        exact ⟨h9.1, by have := h9.2; simp at this ⊢; omega⟩
    | I =>
      cases cur with
      | none =>
        have h9 := ih i (j + 1) (some ⟨i, 0, j, 1⟩) (by omega) (by omega) (by simp)
        rw [scr]
        exact ⟨h9.1, by have := h9.2; simp at this ⊢; omega⟩
      | some e =>
        have := hc e rfl
        have h9 := ih i (j + 1) (some ⟨e.f, e.d, e.t, e.i + 1⟩) (by omega) (by omega) (by simp; omega)
        rw [scr]
        exact ⟨h9.1, by have := h9.2; simp at this ⊢; omega⟩
theorem leastEd_small (a b : List S) (ha : a.length ≤ 100000) (hb : b.length ≤ 100000) : SmallE (leastEd a b) ∧ (leastEd a b).length ≤ a.length + b.length + 1 := by
  unfold leastEd
  have hg := greedy_len a b
  have h9 := scr_small 200000 (greedy a b) 0 0 none (by omega) (by omega) (by simp)
  split
  · split
    · exact ⟨⟨by simp, by simp⟩, by simp⟩
    · exact ⟨⟨by simp, by simp; omega⟩, by simp⟩
  · have h8 := h9.2
    simp only [Option.toList_none, List.length_nil, Nat.add_zero] at h8
    exact ⟨⟨by omega, fun e he => by have := h9.1 e he; omega⟩, by omega⟩

/-- The lists are the same there. -/
def Seg (a b : List S) (x y k : Nat) : Prop := x + k ≤ a.length ∧ y + k ≤ b.length ∧ (a.drop x).take k = (b.drop y).take k
/-- Runs of common lines, one behind the other. -/
def Com (a b : List S) : List Rn → Nat → Nat → Prop
  | [], i, j => i ≤ a.length ∧ j ≤ b.length
  | r :: l, i, j => 1 ≤ r.N ∧ i ≤ r.A ∧ j ≤ r.B ∧ Seg a b r.A r.B r.N ∧ Com a b l (r.A + r.N) (r.B + r.N)
def sumN (l : List Rn) : Nat := (l.map fun r => r.N).sum
theorem Com.mono {a b : List S} {l : List Rn} {i j i' j' : Nat} (h : Com a b l i j) (h1 : i' ≤ i) (h2 : j' ≤ j) : Com a b l i' j' := by
  cases l with
  | nil => exact ⟨by have := h.1; omega, by have := h.2; omega⟩
  | cons r l => exact ⟨h.1, by have := h.2.1; omega, by have := h.2.2.1; omega, h.2.2.2⟩
theorem Com.fit {a b : List S} : ∀ {l : List Rn} {i j : Nat}, Com a b l i j → FitR a.length b.length l i j
  | [], i, j, h => h
  | r :: l, i, j, h => ⟨h.1, h.2.1, h.2.2.1, h.2.2.2.1.1, h.2.2.2.1.2.1, Com.fit h.2.2.2.2⟩
theorem Com.le {a b : List S} : ∀ {l : List Rn} {i j : Nat}, Com a b l i j → i ≤ a.length ∧ j ≤ b.length
  | [], i, j, h => h
  | r :: l, i, j, h => by have := Com.le h.2.2.2.2; have := h.2.1; have := h.2.2.1; omega
theorem Seg.snoc {a b : List S} {x y k : Nat} {s : S} (h : Seg a b x y k) (h1 : a[x + k]? = some s) (h2 : b[y + k]? = some s) : Seg a b x y (k + 1) := by
  obtain ⟨l1, e1⟩ := List.getElem?_eq_some_iff.1 h1
  obtain ⟨l2, e2⟩ := List.getElem?_eq_some_iff.1 h2
  refine ⟨by omega, by omega, ?_⟩
  rw [List.take_add_one, List.take_add_one, h.2.2, List.getElem?_drop, List.getElem?_drop, h1, h2]
theorem Com.cons0 {a b : List S} {l : List Rn} {x y k : Nat} (h : Com a b l (x + k) (y + k)) (hs : Seg a b x y k) : Com a b ((if 0 < k then [⟨x, y, k⟩] else []) ++ l) x y ∧ sumN ((if 0 < k then [⟨x, y, k⟩] else []) ++ l) = k + sumN l := by
  by_cases c : 0 < k
  · rw [if_pos c]
    exact ⟨⟨c, Nat.le_refl _, Nat.le_refl _, hs, h⟩, by simp [sumN]⟩
  · rw [if_neg c]
    exact ⟨h.mono (by omega) (by omega), by simp [sumN]; omega⟩
theorem unch_scr {a b : List S} : ∀ {a' b' : List S} {o : List Op}, Al a' b' o → ∀ (i j x y k : Nat), a' = a.drop i → b' = b.drop j → i ≤ a.length → j ≤ b.length → Seg a b x y k →
    (i = x + k → j = y + k → Com a b (unch a.length (scr o i j none) x y) x y ∧ sumN (unch a.length (scr o i j none) x y) = k + kept o) ∧
    (x + k ≤ i → y + k ≤ j → Com a b (unch a.length (scr o i j (some ⟨x + k, i - (x + k), y + k, j - (y + k)⟩)) x y) x y ∧ sumN (unch a.length (scr o i j (some ⟨x + k, i - (x + k), y + k, j - (y + k)⟩)) x y) = k + kept o) := by
  intro a' b' o h
  induction h with
  | nil =>
    intro i j x y k h1 h2 hi hj hs
    have hi' : i = a.length := by have := congrArg List.length h1; simp at this; omega
    have hj' : j = b.length := by have := congrArg List.length h2; simp at this; omega
    refine ⟨fun e1 e2 => ?_, fun e1 e2 => ?_⟩
    · have h9 := Com.cons0 (l := []) (k := k) ⟨hs.1, hs.2.1⟩ hs
      simp only [scr, Option.toList_none, unch, kept, List.countP_nil]
      rw [List.append_nil] at h9
      rw [show (if x < a.length then [(⟨x, y, a.length - x⟩ : Rn)] else []) = if 0 < k then [⟨x, y, k⟩] else [] by
        by_cases c : 0 < k
        · rw [if_pos c, if_pos (by omega), show a.length - x = k by omega]
        · rw [if_neg c, if_neg (by omega)]]
      exact ⟨h9.1, by rw [h9.2]; simp [sumN]⟩
    · have h9 := Com.cons0 (l := []) (k := k) ⟨hs.1, hs.2.1⟩ hs
      simp only [scr, Option.toList_some, unch, kept, List.countP_nil]
      rw [if_neg (by omega : ¬ x + k + (i - (x + k)) < a.length), show x + k - x = k by omega]
      rw [show (if x < x + k then [(⟨x, y, k⟩ : Rn)] else []) = if 0 < k then [⟨x, y, k⟩] else [] by
        by_cases c : 0 < k
        · rw [if_pos c, if_pos (by omega)]
        · rw [if_neg c, if_neg (by omega)]]
      exact ⟨h9.1, by rw [h9.2]; simp [sumN]⟩
  | @keep s a' b' o h ih =>
    intro i j x y k h1 h2 hi hj hs
    have l1 : i < a.length := by have := congrArg List.length h1; simp at this; omega
    have l2 : j < b.length := by have := congrArg List.length h2; simp at this; omega
    rw [List.drop_eq_getElem_cons l1] at h1
    rw [List.drop_eq_getElem_cons l2] at h2
    injection h1 with q1 h1
    injection h2 with q2 h2
    have g1 : a[i]? = some s := by rw [List.getElem?_eq_getElem l1, q1]
    have g2 : b[j]? = some s := by rw [List.getElem?_eq_getElem l2, q2]
    refine ⟨fun e1 e2 => ?_, fun e1 e2 => ?_⟩
    · subst e1 e2
      have h9 := (ih (x + k + 1) (y + k + 1) x y (k + 1) h1 h2 (by omega) (by omega) (hs.snoc g1 g2)).1 (by omega) (by omega)
      rw [scr, Option.toList_none, List.nil_append, kept_K]
      exact ⟨h9.1, by rw [h9.2]; omega⟩
    · have h9 := (ih (i + 1) (j + 1) i j 1 h1 h2 (by omega) (by omega) (Seg.snoc (k := 0) ⟨by omega, by omega, by simp⟩ g1 g2)).1 rfl rfl
      rw [scr, Option.toList_some, List.singleton_append, unch, kept_K]
      simp only
      rw [show x + k + (i - (x + k)) = i by omega, show y + k + (j - (y + k)) = j by omega, show x + k - x = k by omega]
      rw [show (if x < x + k then [(⟨x, y, k⟩ : Rn)] else []) = if 0 < k then [⟨x, y, k⟩] else [] by
        by_cases c : 0 < k
        · rw [if_pos c, if_pos (by omega)]
        · rw [if_neg c, if_neg (by omega)]]
      have h8 := Com.cons0 (k := k) (h9.1.mono e1 e2) hs
      exact ⟨h8.1, by rw [h8.2, h9.2]; omega⟩
  | @del s a' b' o h ih =>
    intro i j x y k h1 h2 hi hj hs
    have l1 : i < a.length := by have := congrArg List.length h1; simp at this; omega
    rw [List.drop_eq_getElem_cons l1] at h1
    injection h1 with q1 h1
    refine ⟨fun e1 e2 => ?_, fun e1 e2 => ?_⟩
    · subst e1 e2
      have h9 := (ih (x + k + 1) (y + k) x y k h1 h2 (by omega) (by omega) hs).2 (by omega) (by omega)
      rw [show x + k + 1 - (x + k) = 1 by omega, Nat.sub_self] at h9
      rw [scr, kept_D]
      exact h9
    · have h9 := (ih (i + 1) j x y k h1 h2 (by omega) (by omega) hs).2 (by omega) (by omega)
      rw [show i + 1 - (x + k) = i - (x + k) + 1 by omega] at h9
      rw [scr, kept_D]
      exact h9
  | @ins s a' b' o h ih =>
    intro i j x y k h1 h2 hi hj hs
    have l2 : j < b.length := by have := congrArg List.length h2; simp at this; omega
    rw [List.drop_eq_getElem_cons l2] at h2
    injection h2 with q2 h2
    refine ⟨fun e1 e2 => ?_, fun e1 e2 => ?_⟩
    · subst e1 e2
      have h9 := (ih (x + k) (y + k + 1) x y k h1 h2 (by omega) (by omega) hs).2 (by omega) (by omega)
      rw [show y + k + 1 - (y + k) = 1 by omega, Nat.sub_self] at h9
      rw [scr, kept_I]
      exact h9
    · have h9 := (ih i (j + 1) x y k h1 h2 (by omega) (by omega) hs).2 (by omega) (by omega)
      rw [show j + 1 - (y + k) = j - (y + k) + 1 by omega] at h9
      rw [scr, kept_I]
      exact h9
/-- The runs that the least script leaves. -/
def leastRn (a b : List S) : List Rn := unch a.length (leastEd a b) 0 0
theorem leastRn_com (a b : List S) (ha : a.length ≤ 4096) (hb : b.length ≤ 4096) : Com a b (leastRn a b) 0 0 ∧ sumN (leastRn a b) = lcs a b := by
  unfold leastRn leastEd
  rw [if_neg (by omega)]
  have h9 := (unch_scr (a := a) (b := b) (greedy_is a b) 0 0 0 0 0 (by simp) (by simp) (by omega) (by omega) ⟨by omega, by omega, by simp⟩).1 rfl rfl
  rw [greedy_kept, Nat.zero_add] at h9
  exact h9
theorem unch_len (n : Nat) : ∀ (l : List Ed) (i j : Nat), (unch n l i j).length ≤ l.length + 1
  | [], i, j => by unfold unch; split <;> simp
  | e :: l, i, j => by
    have := unch_len n l (e.f + e.d) (e.t + e.i)
    unfold unch
    split <;> (simp; omega)
end Go.Proofs.Ytmmcepbcjlopdaa.E.Hs

/- The closure of diff.Least: walked. Conditions: none. -/
namespace Go.Proofs.Ytmmcepbcjlopdaa.E.Hs
set_option linter.unusedVariables false
set_option linter.unusedSimpArgs false
set_option maxHeartbeats 20000000
set_option maxRecDepth 100000

/-- The blocks of Least behind those of H: the variable out, the variable open, the edits. -/
def lH (H : Heap) (c b : Nat) (op : Bool) (out : List Ed) : Heap := H ++ (c, .rows 1 [.agg [if out = [] then .hs 0 0 0 0 else .hs b 4 0 out.length]]) :: (c + 1, .rows 1 [.agg [.bool op]]) :: (if out = [] then [] else [(b, .rows 4 (out.map edV))])
theorem at_spec (H : Heap) (c b n : Nat) (op : Bool) (out : List Ed) (ah i j : Nat) (hl : Low H c) (h0 : get H 0 = some (.rows 1 [.agg [.int .i64 ah]])) (hc : 0 < c) (hb : c + 1 < b) (hn : out ≠ [] → b < n) (hn2 : c + 1 < n) (ho : op = true → out ≠ []) (h1 : out.length ≤ 1000000) (h2 : ah + i ≤ 1000000) (h3 : ah + j ≤ 1000000) :
    Run tab 34 0 [.int .i64 i, .int .i64 j, .ptr (c + 1) 1 0 0, .ptr c 1 0 0, .ptr 0 1 0 0] (lH H c b op out) n (fun r h' n' => ∃ b' pre e, r = .ptr b' 4 pre.length 0 ∧ h' = lH H c b' true (pre ++ [e]) ∧ c + 1 < b' ∧ b' < n' ∧ n ≤ n' ∧ (op = true → out = pre ++ [e]) ∧ (op = false → pre = out ∧ e = ⟨ah + i, 0, ah + j, 0⟩)) := by
  refine enter (F := f34) rfl rfl ?_
  simp only [f34, ex,reduceIte,reduceCtorEq,Nat.reduceEqDiff,Nat.reduceLT,Nat.reduceLeDiff,Nat.reduceAdd,Nat.reduceSub,Nat.reduceMul,Int.reduceAdd,Int.reduceSub,Int.reduceMul,Int.reduceNeg,Int.reduceLE,Int.reduceLT,Int.reduceEq,Int.reduceToNat]
  cases op with
  | true =>
    have ho := ho rfl
    have q1 : out.length ≠ 0 := fun e => ho (List.eq_nil_of_length_eq_zero e)
    have g0 := fun l => get_app (l := l) hl (Nat.le_refl c)
    have g1 : ∀ l, get (H ++ l) (c + 1) = get l (c + 1) := fun l => get_app (l := l) hl (Nat.le_succ c)
    have e1 : (c + 1 = c) = False := by simp
    (try simp only [lH, ho, g0, g1, e1, ex,reduceIte,reduceCtorEq,Nat.reduceEqDiff,Nat.reduceLT,Nat.reduceLeDiff,Nat.reduceAdd,Nat.reduceSub,Nat.reduceMul,Int.reduceAdd,Int.reduceSub,Int.reduceMul,Int.reduceNeg,Int.reduceLE,Int.reduceLT,Int.reduceEq,Int.reduceToNat]) <;> repeat ((with_reducible refine Req.intro ?_ ?_); (first | omega | (simp <;> omega)); try simp only [lH, ho, g0, g1, e1, ex,reduceIte,reduceCtorEq,Nat.reduceEqDiff,Nat.reduceLT,Nat.reduceLeDiff,Nat.reduceAdd,Nat.reduceSub,Nat.reduceMul,Int.reduceAdd,Int.reduceSub,Int.reduceMul,Int.reduceNeg,Int.reduceLE,Int.reduceLT,Int.reduceEq,Int.reduceToNat])
    have k1 : out = out.dropLast ++ [out.getLast ho] := (List.dropLast_concat_getLast ho).symm
    have k2 : out.dropLast.length + 1 = out.length := by rw [List.length_dropLast]; omega
    refine ⟨b, out.dropLast, out.getLast ho, ?_, ?_, hb, hn ho, fun _ => k1, fun h => h.elim⟩
    · rw [show ((out.length : Int) - 1).toNat = out.dropLast.length by omega]
    · rw [← k1, if_neg ho, if_neg ho]
  | false =>
    have g0 := fun l => get_app (l := l) hl (Nat.le_refl c)
    have g1 : ∀ l, get (H ++ l) (c + 1) = get l (c + 1) := fun l => get_app (l := l) hl (Nat.le_succ c)
    have g2 := fun l => get_app (l := l) hl (show c ≤ b by omega)
    have s0 := fun l x => set_app (l := l) (x := x) hl (Nat.le_refl c)
    have s1 : ∀ l x, set (H ++ l) (c + 1) x = H ++ set l (c + 1) x := fun l x => set_app (l := l) (x := x) hl (Nat.le_succ c)
    have s2 := fun l x => set_app (l := l) (x := x) hl (show c ≤ n by omega)
    have d2 := fun l => del_app (l := l) hl (show c ≤ b by omega)
    have e1 : (c + 1 = c) = False := by simp
    have e2 : (b = c) = False := by simp; omega
    have e3 : (b = c + 1) = False := by simp; omega
    have e4 : (n = c) = False := by simp; omega
    have e5 : (n = c + 1) = False := by simp; omega
    have e6 : (n < c) = False := by simp; omega
    have e7 : (n < c + 1) = False := by simp; omega
    have e8 : (c < c + 1) = True := by simp
    have e9 : (c + 1 < c) = False := by simp
    have ea : (c < c) = False := by simp
    have eb : (c + 1 < c + 1) = False := by simp
    have f1 : (0 = c) = False := by simp; omega
    have f2 : (0 = c + 1) = False := by simp
    have f3 : (0 = b) = False := by simp; omega
    have f4 : (0 = n) = False := by simp; omega
    have gz : ∀ x y, get (H ++ [(c, x), (c + 1, y)]) 0 = get H 0 := fun x y => get_low hl (by simp only [get_cons, f1, f2, if_false, get])
    have gz' : ∀ x y z, get (H ++ [(c, x), (c + 1, y), (b, z)]) 0 = get H 0 := fun x y z => get_low hl (by simp only [get_cons, f1, f2, f3, if_false, get])
    rcases Classical.em (out = []) with q | q
    · (try simp only [lH, q, g0, g1, g2, e1, gz, gz', h0, s0, s1, s2, d2, e2, e3, e4, e5, e6, e7, e8, e9, ea, eb, appB_nil, appB_put, apB_rows, del_cons, edV, ex,reduceIte,reduceCtorEq,Nat.reduceEqDiff,Nat.reduceLT,Nat.reduceLeDiff,Nat.reduceAdd,Nat.reduceSub,Nat.reduceMul,Int.reduceAdd,Int.reduceSub,Int.reduceMul,Int.reduceNeg,Int.reduceLE,Int.reduceLT,Int.reduceEq,Int.reduceToNat]) <;> repeat ((with_reducible refine Req.intro ?_ ?_); (first | omega | (simp <;> omega)); try simp only [lH, q, g0, g1, g2, e1, gz, gz', h0, s0, s1, s2, d2, e2, e3, e4, e5, e6, e7, e8, e9, ea, eb, appB_nil, appB_put, apB_rows, del_cons, edV, ex,reduceIte,reduceCtorEq,Nat.reduceEqDiff,Nat.reduceLT,Nat.reduceLeDiff,Nat.reduceAdd,Nat.reduceSub,Nat.reduceMul,Int.reduceAdd,Int.reduceSub,Int.reduceMul,Int.reduceNeg,Int.reduceLE,Int.reduceLT,Int.reduceEq,Int.reduceToNat])
      exact ⟨n, [], ⟨ah + i, 0, ah + j, 0⟩, rfl, by simp [edV], by omega, by omega, by omega, fun h => h.elim, fun _ => ⟨rfl, rfl⟩⟩
    · (try simp only [lH, q, g0, g1, g2, e1, gz, gz', h0, s0, s1, s2, d2, e2, e3, e4, e5, e6, e7, e8, e9, ea, eb, appB_nil, appB_put, apB_rows, del_cons, edV, ex,reduceIte,reduceCtorEq,Nat.reduceEqDiff,Nat.reduceLT,Nat.reduceLeDiff,Nat.reduceAdd,Nat.reduceSub,Nat.reduceMul,Int.reduceAdd,Int.reduceSub,Int.reduceMul,Int.reduceNeg,Int.reduceLE,Int.reduceLT,Int.reduceEq,Int.reduceToNat]) <;> repeat ((with_reducible refine Req.intro ?_ ?_); (first | omega | (simp <;> omega)); try simp only [lH, q, g0, g1, g2, e1, gz, gz', h0, s0, s1, s2, d2, e2, e3, e4, e5, e6, e7, e8, e9, ea, eb, appB_nil, appB_put, apB_rows, del_cons, edV, ex,reduceIte,reduceCtorEq,Nat.reduceEqDiff,Nat.reduceLT,Nat.reduceLeDiff,Nat.reduceAdd,Nat.reduceSub,Nat.reduceMul,Int.reduceAdd,Int.reduceSub,Int.reduceMul,Int.reduceNeg,Int.reduceLE,Int.reduceLT,Int.reduceEq,Int.reduceToNat])
      have q2 : ((out.length : Int) + 1 - 1).toNat = out.length := by omega
      exact ⟨n, out, ⟨ah + i, 0, ah + j, 0⟩, by simp, by simp [edV], by omega, by omega, by omega, fun h => h.elim, fun _ => ⟨rfl, rfl⟩⟩
end Go.Proofs.Ytmmcepbcjlopdaa.E.Hs

/- diff.Least: walked. Conditions: none. -/
namespace Go.Proofs.Ytmmcepbcjlopdaa.E.Hs
set_option linter.unusedVariables false
set_option linter.unusedSimpArgs false
set_option maxHeartbeats 20000000
set_option maxRecDepth 100000

section
variable {H : Heap} {c b : Nat} {op : Bool} {out : List Ed}
theorem lH_low (hl : Low H c) (hb : c + 1 < b) {k : Nat} (hk : k < c) : get (lH H c b op out) k = get H k := by
  unfold lH
  refine get_low hl ?_
  have f1 : (k = c) = False := by simp; omega
  have f2 : (k = c + 1) = False := by simp; omega
  have f3 : (k = b) = False := by simp; omega
  split
  · simp only [get_cons, f1, f2, if_false, get]
  · simp only [get_cons, f1, f2, f3, if_false, get]
theorem lH_open (hl : Low H c) (x : Bool) : set (lH H c b op out) (c + 1) (.rows 1 [.agg [.bool x]]) = lH H c b x out := by
  unfold lH
  rw [set_app hl (by omega)]
  simp [set_cons]
theorem lH_getOpen (hl : Low H c) : get (lH H c b op out) (c + 1) = some (.rows 1 [.agg [.bool op]]) := by
  unfold lH
  rw [get_app hl (by omega)]
  simp [get_cons]
theorem lH_getOut (hl : Low H c) : get (lH H c b op out) c = some (.rows 1 [.agg [if out = [] then .hs 0 0 0 0 else .hs b 4 0 out.length]]) := by
  unfold lH
  rw [get_app hl (by omega)]
  simp [get_cons]
theorem lH_row (hl : Low H c) (hb : c + 1 < b) (ho : out ≠ []) : get (lH H c b op out) b = some (.rows 4 (out.map edV)) := by
  unfold lH
  rw [get_app hl (by omega), if_neg ho, if_neg ho]
  simp only [get_cons]
  rw [if_neg (by omega), if_neg (by omega)]
  simp
theorem lH_put (hl : Low H c) (hb : c + 1 < b) (pre : List Ed) (e e' : Ed) : set (lH H c b op (pre ++ [e])) b (.rows 4 (pre.map edV ++ [edV e'])) = lH H c b op (pre ++ [e']) := by
  unfold lH
  rw [set_app hl (by omega), if_neg (by simp), if_neg (by simp), if_neg (by simp), if_neg (by simp)]
  simp only [set_cons]
  rw [if_neg (by omega), if_neg (by omega), if_neg (by omega), if_neg (by omega)]
  simp
end
theorem all_edV : ∀ l : List Ed, (l.map edV).all noH2 = true
  | [] => rfl
  | e :: l => by simp only [List.map_cons, List.all_cons, all_edV l, Bool.and_true]; rfl
theorem map_clr2_edV (l : List Ed) : (l.map edV).map clr2 = l.map edV := by
  rw [List.map_map]; rfl
theorem frz_lH {H : Heap} {c b : Nat} {op : Bool} {out : List Ed} (hl : Low H c) (hb : c + 1 < b) (ho : out ≠ []) : W (E.hf (.frz 4) [.hs b 4 0 out.length] (lH H c b op out) 0) (fun q => q.1 = .sl false 4 (out.map edV)) := by
  simp only [E.hf, lH_row hl hb ho]
  rw [if_neg (by decide), if_pos trivial, if_pos ⟨trivial, by simp, all_edV out⟩]
  show V.sl false 4 _ = _
  rw [List.drop_zero, List.take_of_length_le (by simp), map_clr2_edV]
theorem lcp_step {a b : List S} {p : Nat} (h : p < lcp a b) : ∃ s, a[p]? = some s ∧ b[p]? = some s := lcp_lt a b p h
theorem nilH (H : Heap) (c : Nat) (hl : Low H c) (x : Blk) : set H c x = H ++ [(c, x)] := by
  have := set_app (l := []) (x := x) hl (Nat.le_refl _)
  rw [List.append_nil] at this
  rw [this]; rfl

theorem TB_low {k : IntKind} {h : Heap} {n m w : Nat} {hs : List V} {f : Nat → Nat → Nat} (hl : Low h n) : Low (TB k h n m w hs f) (n + 1 + m) := by
  intro p hp
  unfold TB at hp
  rcases List.mem_append.1 hp with hp | hp
  · have := hl p hp; omega
  · rcases List.mem_cons.1 hp with rfl | hp
    · simp only; omega
    · obtain ⟨i, hi, rfl⟩ := List.mem_map.1 hp
      have := List.mem_range.1 hi
      simp only; omega
theorem cur_step {out pre p : List Ed} {cur : Option Ed} {e : Ed} {x y q r : Nat} (ho : out = pre ++ cur.toList) (h1 : cur.isSome = true → out = p ++ [e]) (h2 : cur.isSome = false → p = out ∧ e = ⟨x, 0, y, 0⟩) (hc : ∀ e ∈ cur, e.d ≤ q ∧ e.i ≤ r) :
    p = pre ∧ e.d ≤ q ∧ e.i ≤ r ∧ (∀ o, scr (.I :: o) x y cur = scr o x (y + 1) (some ⟨e.f, e.d, e.t, e.i + 1⟩)) ∧ (∀ o, scr (.D :: o) x y cur = scr o (x + 1) y (some ⟨e.f, e.d + 1, e.t, e.i⟩)) := by
  cases cur with
  | none =>
    obtain ⟨rfl, rfl⟩ := h2 rfl
    refine ⟨by simpa using ho, Nat.zero_le _, Nat.zero_le _, fun o => rfl, fun o => rfl⟩
  | some e' =>
    have h2 := h1 rfl
    rw [ho] at h2
    have := List.append_inj' h2 rfl
    have h3 : e' = e := by simpa using this.2
    subst h3
    have := hc e' rfl
    exact ⟨by simp_all, this.1, this.2, fun o => rfl, fun o => rfl⟩
theorem least_spec (o o' : Bool) (a b : List S) (ha : a.length ≤ 4096) (hb : b.length ≤ 4096) :
    Run tab 19 0 [.sl o 1 (a.map .str), .sl o' 1 (b.map .str)] [] 0 (fun r _ _ => r = .sl false 4 ((leastEd a b).map edV)) := by
  have hp := lcp_le a b
  have hend := lcp_end a b
  have hlt := lcp_lt a b
  have hsc := scr_pre a b
  have hle : leastEd a b = scr (greedy a b) 0 0 none := by unfold leastEd; rw [if_neg (by omega)]
  have hgl := greedy_len a b
  rw [hle, hsc]
  clear hle hsc
  generalize lcp a b = p at *
  refine enter (F := f19) rfl rfl ?_
  simp only [f19, ex,reduceIte,reduceCtorEq,Nat.reduceEqDiff,Nat.reduceLT,Nat.reduceLeDiff,Nat.reduceAdd,Nat.reduceSub,Nat.reduceMul,Int.reduceAdd,Int.reduceSub,Int.reduceMul,Int.reduceNeg,Int.reduceLE,Int.reduceLT,Int.reduceEq,Int.reduceToNat]
  have z1 : decide ((a.length : Int) > 4096) = false := by simp; omega
  have z2 : decide ((b.length : Int) > 4096) = false := by simp; omega
  (try simp only [z1, z2, ex,reduceIte,reduceCtorEq,Nat.reduceEqDiff,Nat.reduceLT,Nat.reduceLeDiff,Nat.reduceAdd,Nat.reduceSub,Nat.reduceMul,Int.reduceAdd,Int.reduceSub,Int.reduceMul,Int.reduceNeg,Int.reduceLE,Int.reduceLT,Int.reduceEq,Int.reduceToNat]) <;> repeat ((with_reducible refine Req.intro ?_ ?_); (first | omega | (simp <;> omega)); try simp only [z1, z2, ex,reduceIte,reduceCtorEq,Nat.reduceEqDiff,Nat.reduceLT,Nat.reduceLeDiff,Nat.reduceAdd,Nat.reduceSub,Nat.reduceMul,Int.reduceAdd,Int.reduceSub,Int.reduceMul,Int.reduceNeg,Int.reduceLE,Int.reduceLT,Int.reduceEq,Int.reduceToNat])
  refine loopI fun L hL => ?_
  (try simp only [ex,reduceIte,reduceCtorEq,Nat.reduceEqDiff,Nat.reduceLT,Nat.reduceLeDiff,Nat.reduceAdd,Nat.reduceSub,Nat.reduceMul,Int.reduceAdd,Int.reduceSub,Int.reduceMul,Int.reduceNeg,Int.reduceLE,Int.reduceLT,Int.reduceEq,Int.reduceToNat]) <;> repeat ((with_reducible refine Req.intro ?_ ?_); (first | omega | (simp <;> omega)); try simp only [ex,reduceIte,reduceCtorEq,Nat.reduceEqDiff,Nat.reduceLT,Nat.reduceLeDiff,Nat.reduceAdd,Nat.reduceSub,Nat.reduceMul,Int.reduceAdd,Int.reduceSub,Int.reduceMul,Int.reduceNeg,Int.reduceLE,Int.reduceLT,Int.reduceEq,Int.reduceToNat])
  have key : ∀ m i : Nat, i + m = p → L (L19_1 (.sl o 1 (a.map .str)) (.sl o' 1 (b.map .str)) (.ptr 0 1 0 0) [(0, .rows 1 [.agg [.int .i64 i]])] 1) := by
    intro m
    induction m with
    | succ m ih =>
      intro i hi
      apply hL
      simp only [L19_1, l19_1, ex,reduceIte,reduceCtorEq,Nat.reduceEqDiff,Nat.reduceLT,Nat.reduceLeDiff,Nat.reduceAdd,Nat.reduceSub,Nat.reduceMul,Int.reduceAdd,Int.reduceSub,Int.reduceMul,Int.reduceNeg,Int.reduceLE,Int.reduceLT,Int.reduceEq,Int.reduceToNat]
      have h1 : decide ((i : Int) < (a.length : Int)) = true := by simp; omega
      have h2 : decide ((i : Int) < (b.length : Int)) = true := by simp; omega
      have hs := hlt i (by omega)
      have g1 := hs.choose_spec.1
      have g2 := hs.choose_spec.2
      generalize hs.choose = x at g1 g2
      have h3 : decide (x = x) = true := by simp
      (try simp only [h1, h2, g1, g2, h3, ex,reduceIte,reduceCtorEq,Nat.reduceEqDiff,Nat.reduceLT,Nat.reduceLeDiff,Nat.reduceAdd,Nat.reduceSub,Nat.reduceMul,Int.reduceAdd,Int.reduceSub,Int.reduceMul,Int.reduceNeg,Int.reduceLE,Int.reduceLT,Int.reduceEq,Int.reduceToNat]) <;> repeat ((with_reducible refine Req.intro ?_ ?_); (first | omega | (simp <;> omega)); try simp only [h1, h2, g1, g2, h3, ex,reduceIte,reduceCtorEq,Nat.reduceEqDiff,Nat.reduceLT,Nat.reduceLeDiff,Nat.reduceAdd,Nat.reduceSub,Nat.reduceMul,Int.reduceAdd,Int.reduceSub,Int.reduceMul,Int.reduceNeg,Int.reduceLE,Int.reduceLT,Int.reduceEq,Int.reduceToNat])
      exact ih (i + 1) (by omega)
    | zero =>
      intro i hi
      have hi' : i = p := by omega
      subst hi'
      apply hL
      simp only [L19_1, l19_1, ex,reduceIte,reduceCtorEq,Nat.reduceEqDiff,Nat.reduceLT,Nat.reduceLeDiff,Nat.reduceAdd,Nat.reduceSub,Nat.reduceMul,Int.reduceAdd,Int.reduceSub,Int.reduceMul,Int.reduceNeg,Int.reduceLE,Int.reduceLT,Int.reduceEq,Int.reduceToNat]
      apply shareL
      · intro share
        rcases Nat.lt_or_ge i a.length with c1 | c1
        · have h1 : decide ((i : Int) < (a.length : Int)) = true := by simp; omega
          rcases Nat.lt_or_ge i b.length with c2 | c2
          · have h2 : decide ((i : Int) < (b.length : Int)) = true := by simp; omega
            have g1 : a[i]? = some (a[i]'(by omega)) := List.getElem?_eq_getElem _
            have g2 : b[i]? = some (b[i]'(by omega)) := List.getElem?_eq_getElem _
            have h3 : decide (a[i]'(by omega) = b[i]'(by omega)) = false := by simpa using hend _ _ g1 g2
            (try simp only [h1, h2, g1, g2, h3, ex,reduceIte,reduceCtorEq,Nat.reduceEqDiff,Nat.reduceLT,Nat.reduceLeDiff,Nat.reduceAdd,Nat.reduceSub,Nat.reduceMul,Int.reduceAdd,Int.reduceSub,Int.reduceMul,Int.reduceNeg,Int.reduceLE,Int.reduceLT,Int.reduceEq,Int.reduceToNat]) <;> repeat ((with_reducible refine Req.intro ?_ ?_); (first | omega | (simp <;> omega)); try simp only [h1, h2, g1, g2, h3, ex,reduceIte,reduceCtorEq,Nat.reduceEqDiff,Nat.reduceLT,Nat.reduceLeDiff,Nat.reduceAdd,Nat.reduceSub,Nat.reduceMul,Int.reduceAdd,Int.reduceSub,Int.reduceMul,Int.reduceNeg,Int.reduceLE,Int.reduceLT,Int.reduceEq,Int.reduceToNat])
            exact share.out
          · have h2 : decide ((i : Int) < (b.length : Int)) = false := by simp; omega
            (try simp only [h1, h2, ex,reduceIte,reduceCtorEq,Nat.reduceEqDiff,Nat.reduceLT,Nat.reduceLeDiff,Nat.reduceAdd,Nat.reduceSub,Nat.reduceMul,Int.reduceAdd,Int.reduceSub,Int.reduceMul,Int.reduceNeg,Int.reduceLE,Int.reduceLT,Int.reduceEq,Int.reduceToNat]) <;> repeat ((with_reducible refine Req.intro ?_ ?_); (first | omega | (simp <;> omega)); try simp only [h1, h2, ex,reduceIte,reduceCtorEq,Nat.reduceEqDiff,Nat.reduceLT,Nat.reduceLeDiff,Nat.reduceAdd,Nat.reduceSub,Nat.reduceMul,Int.reduceAdd,Int.reduceSub,Int.reduceMul,Int.reduceNeg,Int.reduceLE,Int.reduceLT,Int.reduceEq,Int.reduceToNat])
            exact share.out
        · have h1 : decide ((i : Int) < (a.length : Int)) = false := by simp; omega
          (try simp only [h1, ex,reduceIte,reduceCtorEq,Nat.reduceEqDiff,Nat.reduceLT,Nat.reduceLeDiff,Nat.reduceAdd,Nat.reduceSub,Nat.reduceMul,Int.reduceAdd,Int.reduceSub,Int.reduceMul,Int.reduceNeg,Int.reduceLE,Int.reduceLT,Int.reduceEq,Int.reduceToNat]) <;> repeat ((with_reducible refine Req.intro ?_ ?_); (first | omega | (simp <;> omega)); try simp only [h1, ex,reduceIte,reduceCtorEq,Nat.reduceEqDiff,Nat.reduceLT,Nat.reduceLeDiff,Nat.reduceAdd,Nat.reduceSub,Nat.reduceMul,Int.reduceAdd,Int.reduceSub,Int.reduceMul,Int.reduceNeg,Int.reduceLE,Int.reduceLT,Int.reduceEq,Int.reduceToNat])
          exact share.out
      · have hla : (a.drop i).length = a.length - i := by simp
        have hlb : (b.drop i).length = b.length - i := by simp
        have hg2 := greedy_len (a.drop i) (b.drop i)
        generalize a.drop i = a' at *
        generalize b.drop i = b' at *
        refine CallH.any (table_spec _ _ a' b' (by omega) (by omega) [(0, .rows 1 [.agg [.int .i64 i]])] 1 (fun p hp => by simp at hp; subst hp; simp)) ?_
        intro r h' n' hx
        have hr := hx.1
        have hn0 := hx.2.1
        have hx2 := hx.2.2.choose_spec
        generalize hx.2.2.choose = f at hx2
        have hf := hx2.1
        have hh0 := hx2.2
        clear hx hx2
        have hlow1 : Low [(0, Blk.rows 1 [.agg [.int .i64 (i : Int)]])] 1 := fun p hp => by simp at hp; subst hp; simp
        have hlow := TB_low (k := .u16) (m := a'.length + 1) (w := b'.length + 1) (hs := hds 1 (b'.length + 1) (a'.length + 1)) (f := f) hlow1
        have hz : get (TB .u16 [(0, Blk.rows 1 [.agg [.int .i64 (i : Int)]])] 1 (a'.length + 1) (b'.length + 1) (hds 1 (b'.length + 1) (a'.length + 1)) f) 0 = some (.rows 1 [.agg [.int .i64 (i : Int)]]) := rfl
        have hT := TB_outer (k := .u16) (m := a'.length + 1) (w := b'.length + 1) (hs := hds 1 (b'.length + 1) (a'.length + 1)) (f := f) hlow1
        have hR : ∀ q, q ≤ a'.length → get (TB .u16 [(0, Blk.rows 1 [.agg [.int .i64 (i : Int)]])] 1 (a'.length + 1) (b'.length + 1) (hds 1 (b'.length + 1) (a'.length + 1)) f) (2 + q) = some (.rows 1 (rowV .u16 (b'.length + 1) f q)) := fun q hq => TB_row hlow1 (by omega)
        generalize TB .u16 [(0, Blk.rows 1 [.agg [.int .i64 (i : Int)]])] 1 (a'.length + 1) (b'.length + 1) (hds 1 (b'.length + 1) (a'.length + 1)) f = H at *
        have hc0 : a'.length + 3 = 1 + (a'.length + 2) := by omega
        have hcc : 1 + 1 + (a'.length + 1) = 1 + (a'.length + 2) := by omega
        rw [hcc] at hlow
        clear hcc
        generalize hc : 1 + (a'.length + 2) = c at *
        have w0 := nilH H c hlow
        have w1 : ∀ l x, set (H ++ l) (c + 1) x = H ++ set l (c + 1) x := fun l x => set_app hlow (by omega)
        have w2 : ∀ l, get (H ++ l) (c + 1) = get l (c + 1) := fun l => get_app hlow (by omega)
        have e1 : (c + 1 = c) = False := by simp
        have e2 : (c + 1 < c) = False := by simp
        have e3 : (c + 1 < c + 1) = False := by simp
        have hc1 : 1 + (c - 1) = c := by omega
        have ea : (c < c) = False := by simp
        (try simp only [hr, hn0, hh0, hc1, w0, w1, w2, e1, e2, e3, ea, ex,reduceIte,reduceCtorEq,Nat.reduceEqDiff,Nat.reduceLT,Nat.reduceLeDiff,Nat.reduceAdd,Nat.reduceSub,Nat.reduceMul,Int.reduceAdd,Int.reduceSub,Int.reduceMul,Int.reduceNeg,Int.reduceLE,Int.reduceLT,Int.reduceEq,Int.reduceToNat]) <;> repeat ((with_reducible refine Req.intro ?_ ?_); (first | omega | (simp <;> omega)); try simp only [hr, hn0, hh0, hc1, w0, w1, w2, e1, e2, e3, ea, ex,reduceIte,reduceCtorEq,Nat.reduceEqDiff,Nat.reduceLT,Nat.reduceLeDiff,Nat.reduceAdd,Nat.reduceSub,Nat.reduceMul,Int.reduceAdd,Int.reduceSub,Int.reduceMul,Int.reduceNeg,Int.reduceLE,Int.reduceLT,Int.reduceEq,Int.reduceToNat])
        refine loopI fun L2 hL2 => ?_
        (try simp only [ex,reduceIte,reduceCtorEq,Nat.reduceEqDiff,Nat.reduceLT,Nat.reduceLeDiff,Nat.reduceAdd,Nat.reduceSub,Nat.reduceMul,Int.reduceAdd,Int.reduceSub,Int.reduceMul,Int.reduceNeg,Int.reduceLE,Int.reduceLT,Int.reduceEq,Int.reduceToNat]) <;> repeat ((with_reducible refine Req.intro ?_ ?_); (first | omega | (simp <;> omega)); try simp only [ex,reduceIte,reduceCtorEq,Nat.reduceEqDiff,Nat.reduceLT,Nat.reduceLeDiff,Nat.reduceAdd,Nat.reduceSub,Nat.reduceMul,Int.reduceAdd,Int.reduceSub,Int.reduceMul,Int.reduceNeg,Int.reduceLE,Int.reduceLT,Int.reduceEq,Int.reduceToNat])
        have key2 : ∀ (m q r b n : Nat) (out pre : List Ed) (cur : Option Ed), q + r + m = a'.length + b'.length → q ≤ a'.length → r ≤ b'.length → out = pre ++ cur.toList → pre ++ scr (greedy (a'.drop q) (b'.drop r)) (i + q) (i + r) cur = scr (greedy a' b') i i none → c + 1 < b → (out ≠ [] → b < n) → c + 1 < n → out.length ≤ q + r → (∀ e ∈ cur, e.d ≤ q ∧ e.i ≤ r) →
            L2 (L19_2 (.sl false 1 (a'.map .str)) (.sl false 1 (b'.map .str)) (.hs 1 1 0 (a'.length + 1)) (.ptr c 1 0 0) (.ptr (c + 1) 1 0 0) (.fn 34 [.ptr (c + 1) 1 0 0, .ptr c 1 0 0, .ptr 0 1 0 0]) (.int .i64 q) (.int .i64 r) (lH H c b cur.isSome out) n) := by
          intro m
          induction m using Nat.strongRecOn with
          | _ m ih =>
            intro q r b n out pre cur hm hq hr ho he hb hn hn2 hol hcur
            apply hL2
            simp only [L19_2, l19_2, ex,reduceIte,reduceCtorEq,Nat.reduceEqDiff,Nat.reduceLT,Nat.reduceLeDiff,Nat.reduceAdd,Nat.reduceSub,Nat.reduceMul,Int.reduceAdd,Int.reduceSub,Int.reduceMul,Int.reduceNeg,Int.reduceLE,Int.reduceLT,Int.reduceEq,Int.reduceToNat]
            rcases Nat.eq_zero_or_pos m with m0 | m0
            · have h1 : decide ((q : Int) < (a'.length : Int)) = false := by simp; omega
              have h2 : decide ((r : Int) < (b'.length : Int)) = false := by simp; omega
              rw [greedy_end (by omega) (by omega), scr, ← ho] at he
              rw [← he]
              have k1 := lH_getOut (b := b) (op := cur.isSome) (out := out) hlow
              rcases Classical.em (out = []) with e | e
              · subst e
                (try simp only [h1, h2, k1, frB, ex,reduceIte,reduceCtorEq,Nat.reduceEqDiff,Nat.reduceLT,Nat.reduceLeDiff,Nat.reduceAdd,Nat.reduceSub,Nat.reduceMul,Int.reduceAdd,Int.reduceSub,Int.reduceMul,Int.reduceNeg,Int.reduceLE,Int.reduceLT,Int.reduceEq,Int.reduceToNat]) <;> repeat ((with_reducible refine Req.intro ?_ ?_); (first | omega | (simp <;> omega)); try simp only [h1, h2, k1, frB, ex,reduceIte,reduceCtorEq,Nat.reduceEqDiff,Nat.reduceLT,Nat.reduceLeDiff,Nat.reduceAdd,Nat.reduceSub,Nat.reduceMul,Int.reduceAdd,Int.reduceSub,Int.reduceMul,Int.reduceNeg,Int.reduceLE,Int.reduceLT,Int.reduceEq,Int.reduceToNat])
                rfl
              · have k2 := lH_row (op := cur.isSome) hlow hb e
                have k3 : (4 = 0) = False := by decide
                (try simp only [h1, h2, k1, e, frB, k2, k3, ex,reduceIte,reduceCtorEq,Nat.reduceEqDiff,Nat.reduceLT,Nat.reduceLeDiff,Nat.reduceAdd,Nat.reduceSub,Nat.reduceMul,Int.reduceAdd,Int.reduceSub,Int.reduceMul,Int.reduceNeg,Int.reduceLE,Int.reduceLT,Int.reduceEq,Int.reduceToNat]) <;> repeat ((with_reducible refine Req.intro ?_ ?_); (first | omega | (simp <;> omega)); try simp only [h1, h2, k1, e, frB, k2, k3, ex,reduceIte,reduceCtorEq,Nat.reduceEqDiff,Nat.reduceLT,Nat.reduceLeDiff,Nat.reduceAdd,Nat.reduceSub,Nat.reduceMul,Int.reduceAdd,Int.reduceSub,Int.reduceMul,Int.reduceNeg,Int.reduceLE,Int.reduceLT,Int.reduceEq,Int.reduceToNat])
                exact frz_lH hlow hb e
            · have s1 := lH_open (b := b) (op := cur.isSome) (out := out) hlow false
              have gO := lH_getOpen (b := b) (op := cur.isSome) (out := out) hlow
              have gL : ∀ k, k < c → get (lH H c b cur.isSome out) k = get H k := fun k hk => lH_low hlow hb hk
              apply shareL
              · intro shareD
                apply shareL
                · intro shareI
                  rcases Nat.lt_or_ge q a'.length with c1 | c1
                  · have h1 : decide ((q : Int) < (a'.length : Int)) = true := by simp; omega
                    rcases Nat.lt_or_ge r b'.length with c2 | c2
                    · have h2 : decide ((r : Int) < (b'.length : Int)) = true := by simp; omega
                      have h4 : decide ((r : Int) = (b'.length : Int)) = false := by simp; omega
                      have g1 : a'[q]? = some (a'[q]'(by omega)) := List.getElem?_eq_getElem _
                      have g2 : b'[r]? = some (b'[r]'(by omega)) := List.getElem?_eq_getElem _
                      generalize hx : a'[q]'(by omega) = x at g1
                      generalize hy : b'[r]'(by omega) = y at g2
                      rcases Classical.em (x = y) with e | e
                      · subst e
                        have h3 : decide (x = x) = true := by simp
                        rw [greedy_K g1 g2, scr, ← List.append_assoc, ← ho] at he
                        have h9 := ih (m - 2) (by omega) (q + 1) (r + 1) b n out out none (by omega) (by omega) (by omega) (by simp) he hb hn hn2 (by omega) (by simp)
                        (try simp only [h1, h2, g1, g2, h3, gO, s1, ex,reduceIte,reduceCtorEq,Nat.reduceEqDiff,Nat.reduceLT,Nat.reduceLeDiff,Nat.reduceAdd,Nat.reduceSub,Nat.reduceMul,Int.reduceAdd,Int.reduceSub,Int.reduceMul,Int.reduceNeg,Int.reduceLE,Int.reduceLT,Int.reduceEq,Int.reduceToNat]) <;> repeat ((with_reducible refine Req.intro ?_ ?_); (first | omega | (simp <;> omega)); try simp only [h1, h2, g1, g2, h3, gO, s1, ex,reduceIte,reduceCtorEq,Nat.reduceEqDiff,Nat.reduceLT,Nat.reduceLeDiff,Nat.reduceAdd,Nat.reduceSub,Nat.reduceMul,Int.reduceAdd,Int.reduceSub,Int.reduceMul,Int.reduceNeg,Int.reduceLE,Int.reduceLT,Int.reduceEq,Int.reduceToNat])
                        exact h9
                      · have h3 : decide (x = y) = false := by simpa using e
                        have t0 := gL 1 (by omega)
                        have t1 := gL (2 + q) (by omega)
                        have t2 := gL (2 + (q + 1)) (by omega)
                        have t3 := hR q (by omega)
                        have t4 := hR (q + 1) (by omega)
                        have k1 := hds_get (n := 1) (w := b'.length + 1) (m := a'.length + 1) (i := q) (by omega)
                        have k2 := hds_get (n := 1) (w := b'.length + 1) (m := a'.length + 1) (i := q + 1) (by omega)
                        have k5 := rowV_get (k := .u16) (w := b'.length + 1) (f := f) (i := q + 1) (j := r) (by omega)
                        have k6 := rowV_get (k := .u16) (w := b'.length + 1) (f := f) (i := q) (j := r + 1) (by omega)
                        have f1 := hf (q + 1) r (by omega) (by omega)
                        have f2 := hf q (r + 1) (by omega) (by omega)
                        rcases Classical.em (ent a' b' q (r + 1) ≤ ent a' b' (q + 1) r) with e2 | e2
                        · have h5 : decide (((ent a' b' (q + 1) r : Nat) : Int) ≥ ((ent a' b' q (r + 1) : Nat) : Int)) = true := by simp; omega
                          have gd := greedy_D g1 g2 e e2
                          (try simp only [h1, h2, g1, g2, h3, h4, t0, t1, t2, t3, t4, k1, k2, k5, k6, f1, f2, h5, hT, ex,reduceIte,reduceCtorEq,Nat.reduceEqDiff,Nat.reduceLT,Nat.reduceLeDiff,Nat.reduceAdd,Nat.reduceSub,Nat.reduceMul,Int.reduceAdd,Int.reduceSub,Int.reduceMul,Int.reduceNeg,Int.reduceLE,Int.reduceLT,Int.reduceEq,Int.reduceToNat]) <;> repeat ((with_reducible refine Req.intro ?_ ?_); (first | omega | (simp <;> omega)); try simp only [h1, h2, g1, g2, h3, h4, t0, t1, t2, t3, t4, k1, k2, k5, k6, f1, f2, h5, hT, ex,reduceIte,reduceCtorEq,Nat.reduceEqDiff,Nat.reduceLT,Nat.reduceLeDiff,Nat.reduceAdd,Nat.reduceSub,Nat.reduceMul,Int.reduceAdd,Int.reduceSub,Int.reduceMul,Int.reduceNeg,Int.reduceLE,Int.reduceLT,Int.reduceEq,Int.reduceToNat])
                          exact (shareD.out : _ → _ → _) gd c1
                        · have h5 : decide (((ent a' b' (q + 1) r : Nat) : Int) ≥ ((ent a' b' q (r + 1) : Nat) : Int)) = false := by simp; omega
                          have gd := greedy_I g1 g2 e e2
                          (try simp only [h1, h2, g1, g2, h3, h4, t0, t1, t2, t3, t4, k1, k2, k5, k6, f1, f2, h5, hT, ex,reduceIte,reduceCtorEq,Nat.reduceEqDiff,Nat.reduceLT,Nat.reduceLeDiff,Nat.reduceAdd,Nat.reduceSub,Nat.reduceMul,Int.reduceAdd,Int.reduceSub,Int.reduceMul,Int.reduceNeg,Int.reduceLE,Int.reduceLT,Int.reduceEq,Int.reduceToNat]) <;> repeat ((with_reducible refine Req.intro ?_ ?_); (first | omega | (simp <;> omega)); try simp only [h1, h2, g1, g2, h3, h4, t0, t1, t2, t3, t4, k1, k2, k5, k6, f1, f2, h5, hT, ex,reduceIte,reduceCtorEq,Nat.reduceEqDiff,Nat.reduceLT,Nat.reduceLeDiff,Nat.reduceAdd,Nat.reduceSub,Nat.reduceMul,Int.reduceAdd,Int.reduceSub,Int.reduceMul,Int.reduceNeg,Int.reduceLE,Int.reduceLT,Int.reduceEq,Int.reduceToNat])
                          exact (shareI.out : _ → _ → _) gd c2
                    · have h2 : decide ((r : Int) < (b'.length : Int)) = false := by simp; omega
                      have h4 : decide ((r : Int) = (b'.length : Int)) = true := by simp; omega
                      have gd := greedy_D0 (b := b') c1 c2
                      (try simp only [h1, h2, h4, ex,reduceIte,reduceCtorEq,Nat.reduceEqDiff,Nat.reduceLT,Nat.reduceLeDiff,Nat.reduceAdd,Nat.reduceSub,Nat.reduceMul,Int.reduceAdd,Int.reduceSub,Int.reduceMul,Int.reduceNeg,Int.reduceLE,Int.reduceLT,Int.reduceEq,Int.reduceToNat]) <;> repeat ((with_reducible refine Req.intro ?_ ?_); (first | omega | (simp <;> omega)); try simp only [h1, h2, h4, ex,reduceIte,reduceCtorEq,Nat.reduceEqDiff,Nat.reduceLT,Nat.reduceLeDiff,Nat.reduceAdd,Nat.reduceSub,Nat.reduceMul,Int.reduceAdd,Int.reduceSub,Int.reduceMul,Int.reduceNeg,Int.reduceLE,Int.reduceLT,Int.reduceEq,Int.reduceToNat])
                      exact (shareD.out : _ → _ → _) gd c1
                  · have h1 : decide ((q : Int) < (a'.length : Int)) = false := by simp; omega
                    have h2 : decide ((r : Int) < (b'.length : Int)) = true := by simp; omega
                    have h4 : decide ((r : Int) = (b'.length : Int)) = false := by simp; omega
                    have c2 : r < b'.length := by omega
                    have gd := greedy_I0 (j := r) c1 c2
                    (try simp only [h1, h2, h4, ex,reduceIte,reduceCtorEq,Nat.reduceEqDiff,Nat.reduceLT,Nat.reduceLeDiff,Nat.reduceAdd,Nat.reduceSub,Nat.reduceMul,Int.reduceAdd,Int.reduceSub,Int.reduceMul,Int.reduceNeg,Int.reduceLE,Int.reduceLT,Int.reduceEq,Int.reduceToNat]) <;> repeat ((with_reducible refine Req.intro ?_ ?_); (first | omega | (simp <;> omega)); try simp only [h1, h2, h4, ex,reduceIte,reduceCtorEq,Nat.reduceEqDiff,Nat.reduceLT,Nat.reduceLeDiff,Nat.reduceAdd,Nat.reduceSub,Nat.reduceMul,Int.reduceAdd,Int.reduceSub,Int.reduceMul,Int.reduceNeg,Int.reduceLE,Int.reduceLT,Int.reduceEq,Int.reduceToNat])
                    exact (shareI.out : _ → _ → _) gd c2
                · intro gd c2
                  refine CallH.any (at_spec H c b n cur.isSome out i q r hlow hz (by omega) hb hn hn2 (fun h e => by rw [e] at ho; cases cur <;> simp at ho h) (by omega) (by omega) (by omega)) ?_
                  intro r' h' n' hx
                  have hx1 := hx.choose_spec
                  generalize hx.choose = b' at hx1
                  have hx2 := hx1.choose_spec
                  generalize hx1.choose = p' at hx2
                  have hx3 := hx2.choose_spec
                  generalize hx2.choose = e' at hx3
                  have hr := hx3.1
                  have hh := hx3.2.1
                  have hb' := hx3.2.2.1
                  have hn' := hx3.2.2.2.1
                  have hnn' := hx3.2.2.2.2.1
                  have ht := hx3.2.2.2.2.2.1
                  have hff := hx3.2.2.2.2.2.2
                  clear hx1 hx2 hx3 hx
                  have cs := cur_step (q := q) (r := r) ho ht hff hcur
                  have cs1 := cs.1
                  have cs2 := cs.2.1
                  have cs3 := cs.2.2.1
                  have cs4 := cs.2.2.2.1
                  clear cs ht hff
                  rw [gd, cs4, ← cs1] at he
                  have gE : (p' ++ [e'])[p'.length]? = some e' := by simp
                  have gS : ((p' ++ [e']).map edV).set p'.length (.agg [.int .i64 e'.f, .int .i64 e'.d, .int .i64 e'.t, .int .i64 ((e'.i : Int) + 1)]) = p'.map edV ++ [edV ⟨e'.f, e'.d, e'.t, e'.i + 1⟩] := by simp [edV]
                  have gP : set (lH H c b' true (p' ++ [e'])) b' (.rows 4 (p'.map edV ++ [.agg [.int .i64 e'.f, .int .i64 e'.d, .int .i64 e'.t, .int .i64 ((e'.i + 1 : Nat) : Int)]])) = _ := lH_put (op := true) hlow hb' p' e' ⟨e'.f, e'.d, e'.t, e'.i + 1⟩
                  have gG := lH_row (op := true) (out := p' ++ [e']) hlow hb' (by simp)
                  have hlen : p'.length ≤ q + r := by rw [ho, ← cs1] at hol; simp at hol; omega
                  have h9 := ih (m - 1) (by omega) q (r + 1) b' n' (p' ++ [⟨e'.f, e'.d, e'.t, e'.i + 1⟩]) p' (some ⟨e'.f, e'.d, e'.t, e'.i + 1⟩) (by omega) (by omega) (by omega) rfl he hb' (fun _ => hn') (by omega) (by simp; omega) (by simp; omega)
                  have hnn : n + (n' - n) = n' := by omega
                  (try simp only [hr, hh, gG, gE, edV, gS, gP, hnn, ex,reduceIte,reduceCtorEq,Nat.reduceEqDiff,Nat.reduceLT,Nat.reduceLeDiff,Nat.reduceAdd,Nat.reduceSub,Nat.reduceMul,Int.reduceAdd,Int.reduceSub,Int.reduceMul,Int.reduceNeg,Int.reduceLE,Int.reduceLT,Int.reduceEq,Int.reduceToNat]) <;> repeat ((with_reducible refine Req.intro ?_ ?_); (first | omega | (simp <;> omega)); try simp only [hr, hh, gG, gE, edV, gS, gP, hnn, ex,reduceIte,reduceCtorEq,Nat.reduceEqDiff,Nat.reduceLT,Nat.reduceLeDiff,Nat.reduceAdd,Nat.reduceSub,Nat.reduceMul,Int.reduceAdd,Int.reduceSub,Int.reduceMul,Int.reduceNeg,Int.reduceLE,Int.reduceLT,Int.reduceEq,Int.reduceToNat])
                  exact h9
              · intro gd c1
                refine CallH.any (at_spec H c b n cur.isSome out i q r hlow hz (by omega) hb hn hn2 (fun h e => by rw [e] at ho; cases cur <;> simp at ho h) (by omega) (by omega) (by omega)) ?_
                intro r' h' n' hx
                have hx1 := hx.choose_spec
                generalize hx.choose = b' at hx1
                have hx2 := hx1.choose_spec
                generalize hx1.choose = p' at hx2
                have hx3 := hx2.choose_spec
                generalize hx2.choose = e' at hx3
                have hr := hx3.1
                have hh := hx3.2.1
                have hb' := hx3.2.2.1
                have hn' := hx3.2.2.2.1
                have hnn' := hx3.2.2.2.2.1
                have ht := hx3.2.2.2.2.2.1
                have hff := hx3.2.2.2.2.2.2
                clear hx1 hx2 hx3 hx
                have cs := cur_step (q := q) (r := r) ho ht hff hcur
                have cs1 := cs.1
                have cs2 := cs.2.1
                have cs3 := cs.2.2.1
                have cs4 := cs.2.2.2.2
                clear cs ht hff
                rw [gd, cs4, ← cs1] at he
                have gE : (p' ++ [e'])[p'.length]? = some e' := by simp
                have gS : ((p' ++ [e']).map edV).set p'.length (.agg [.int .i64 e'.f, .int .i64 ((e'.d : Int) + 1), .int .i64 e'.t, .int .i64 e'.i]) = p'.map edV ++ [edV ⟨e'.f, e'.d + 1, e'.t, e'.i⟩] := by simp [edV]
                have gP : set (lH H c b' true (p' ++ [e'])) b' (.rows 4 (p'.map edV ++ [.agg [.int .i64 e'.f, .int .i64 ((e'.d + 1 : Nat) : Int), .int .i64 e'.t, .int .i64 e'.i]])) = _ := lH_put (op := true) hlow hb' p' e' ⟨e'.f, e'.d + 1, e'.t, e'.i⟩
                have gG := lH_row (op := true) (out := p' ++ [e']) hlow hb' (by simp)
                have hlen : p'.length ≤ q + r := by rw [ho, ← cs1] at hol; simp at hol; omega
                have h9 := ih (m - 1) (by omega) (q + 1) r b' n' (p' ++ [⟨e'.f, e'.d + 1, e'.t, e'.i⟩]) p' (some ⟨e'.f, e'.d + 1, e'.t, e'.i⟩) (by omega) (by omega) (by omega) rfl he hb' (fun _ => hn') (by omega) (by simp; omega) (by simp; omega)
                have hnn : n + (n' - n) = n' := by omega
                (try simp only [hr, hh, gG, gE, edV, gS, gP, hnn, ex,reduceIte,reduceCtorEq,Nat.reduceEqDiff,Nat.reduceLT,Nat.reduceLeDiff,Nat.reduceAdd,Nat.reduceSub,Nat.reduceMul,Int.reduceAdd,Int.reduceSub,Int.reduceMul,Int.reduceNeg,Int.reduceLE,Int.reduceLT,Int.reduceEq,Int.reduceToNat]) <;> repeat ((with_reducible refine Req.intro ?_ ?_); (first | omega | (simp <;> omega)); try simp only [hr, hh, gG, gE, edV, gS, gP, hnn, ex,reduceIte,reduceCtorEq,Nat.reduceEqDiff,Nat.reduceLT,Nat.reduceLeDiff,Nat.reduceAdd,Nat.reduceSub,Nat.reduceMul,Int.reduceAdd,Int.reduceSub,Int.reduceMul,Int.reduceNeg,Int.reduceLE,Int.reduceLT,Int.reduceEq,Int.reduceToNat])
                exact h9
        have h9 := key2 (a'.length + b'.length) 0 0 (c + 2) (c + 2) [] [] none (by omega) (by omega) (by omega) rfl (by simp) (by omega) (by simp) (by omega) (by simp) (by simp)
        simp only [lH, if_true] at h9
        exact h9
  exact key p 0 (Nat.zero_add _)
end Go.Proofs.Ytmmcepbcjlopdaa.E.Hs

/- The reference's runs: what the functions compute. Conditions: none. -/
namespace Go.Proofs.Ytmmcepbcjlopdaa.E.Hs
set_option linter.unusedVariables false
set_option linter.unusedSimpArgs false
set_option maxHeartbeats 20000000

theorem drop_get (a : List S) (i n : Nat) : (a.drop i)[n]? = a[i + n]? := by rw [List.getElem?_drop]

theorem run_spec (o o' : Bool) (a b : List S) (i k : Nat) (hi : i < a.length) (hk : k < b.length) (ha : a.length ≤ 17592186044416) (hb : b.length ≤ 17592186044416) :
    Run tab 29 0 [.sl o 1 (a.map .str), .sl o' 1 (b.map .str), .int .i64 i, .int .i64 k] [] 0 (fun r _ _ => r = (.agg [.int .i64 (runOf a b i k).A, .int .i64 (runOf a b i k).B, .int .i64 (runOf a b i k).N])) := by
  refine enter (F := f29) rfl rfl ?_
  simp only [f29, ex,reduceIte,reduceCtorEq,Nat.reduceEqDiff,Nat.reduceLT,Nat.reduceLeDiff,Nat.reduceAdd,Nat.reduceSub,Nat.reduceMul,Int.reduceAdd,Int.reduceSub,Int.reduceMul,Int.reduceNeg,Int.reduceLE,Int.reduceLT,Int.reduceEq,Int.reduceToNat]
  (try simp only [ex,reduceIte,reduceCtorEq,Nat.reduceEqDiff,Nat.reduceLT,Nat.reduceLeDiff,Nat.reduceAdd,Nat.reduceSub,Nat.reduceMul,Int.reduceAdd,Int.reduceSub,Int.reduceMul,Int.reduceNeg,Int.reduceLE,Int.reduceLT,Int.reduceEq,Int.reduceToNat]) <;> repeat ((with_reducible refine Req.intro ?_ ?_); (first | omega | (simp <;> omega)); try simp only [ex,reduceIte,reduceCtorEq,Nat.reduceEqDiff,Nat.reduceLT,Nat.reduceLeDiff,Nat.reduceAdd,Nat.reduceSub,Nat.reduceMul,Int.reduceAdd,Int.reduceSub,Int.reduceMul,Int.reduceNeg,Int.reduceLE,Int.reduceLT,Int.reduceEq,Int.reduceToNat])
  refine loopI fun L hL => ?_
  (try simp only [ex,reduceIte,reduceCtorEq,Nat.reduceEqDiff,Nat.reduceLT,Nat.reduceLeDiff,Nat.reduceAdd,Nat.reduceSub,Nat.reduceMul,Int.reduceAdd,Int.reduceSub,Int.reduceMul,Int.reduceNeg,Int.reduceLE,Int.reduceLT,Int.reduceEq,Int.reduceToNat]) <;> repeat ((with_reducible refine Req.intro ?_ ?_); (first | omega | (simp <;> omega)); try simp only [ex,reduceIte,reduceCtorEq,Nat.reduceEqDiff,Nat.reduceLT,Nat.reduceLeDiff,Nat.reduceAdd,Nat.reduceSub,Nat.reduceMul,Int.reduceAdd,Int.reduceSub,Int.reduceMul,Int.reduceNeg,Int.reduceLE,Int.reduceLT,Int.reduceEq,Int.reduceToNat])
  have fin : ∀ i' k' : Nat, i' ≤ i → k' ≤ k → back a b i k = (i', k') → (i' = 0 ∨ (0 < i' ∧ k' = 0) ∨ (0 < i' ∧ 0 < k' ∧ a[i' - 1]? ≠ b[k' - 1]?)) → L (L29_1 (.sl o 1 (a.map .str)) (.sl o' 1 (b.map .str)) (.int .i64 i') (.int .i64 k') (.ptr 0 3 0 0) 0 [.int .i64 0, .int .i64 0, .int .i64 0] [] 1) := by
    intro i' k' hi' hk' he hs
    apply hL
    simp only [L29_1, l29_1, ex,reduceIte,reduceCtorEq,Nat.reduceEqDiff,Nat.reduceLT,Nat.reduceLeDiff,Nat.reduceAdd,Nat.reduceSub,Nat.reduceMul,Int.reduceAdd,Int.reduceSub,Int.reduceMul,Int.reduceNeg,Int.reduceLE,Int.reduceLT,Int.reduceEq,Int.reduceToNat]
    apply shareL
    · intro share
      rcases hs with h | ⟨h, h'⟩ | ⟨h, h', h''⟩
      · have h1 : decide ((i' : Int) > 0) = false := by simp; omega
        (try simp only [h1, ex,reduceIte,reduceCtorEq,Nat.reduceEqDiff,Nat.reduceLT,Nat.reduceLeDiff,Nat.reduceAdd,Nat.reduceSub,Nat.reduceMul,Int.reduceAdd,Int.reduceSub,Int.reduceMul,Int.reduceNeg,Int.reduceLE,Int.reduceLT,Int.reduceEq,Int.reduceToNat]) <;> repeat ((with_reducible refine Req.intro ?_ ?_); (first | omega | (simp <;> omega)); try simp only [h1, ex,reduceIte,reduceCtorEq,Nat.reduceEqDiff,Nat.reduceLT,Nat.reduceLeDiff,Nat.reduceAdd,Nat.reduceSub,Nat.reduceMul,Int.reduceAdd,Int.reduceSub,Int.reduceMul,Int.reduceNeg,Int.reduceLE,Int.reduceLT,Int.reduceEq,Int.reduceToNat])
        exact share.out
      · have h1 : decide ((i' : Int) > 0) = true := by simp; omega
        have h2 : decide ((k' : Int) > 0) = false := by simp; omega
        (try simp only [h1, h2, ex,reduceIte,reduceCtorEq,Nat.reduceEqDiff,Nat.reduceLT,Nat.reduceLeDiff,Nat.reduceAdd,Nat.reduceSub,Nat.reduceMul,Int.reduceAdd,Int.reduceSub,Int.reduceMul,Int.reduceNeg,Int.reduceLE,Int.reduceLT,Int.reduceEq,Int.reduceToNat]) <;> repeat ((with_reducible refine Req.intro ?_ ?_); (first | omega | (simp <;> omega)); try simp only [h1, h2, ex,reduceIte,reduceCtorEq,Nat.reduceEqDiff,Nat.reduceLT,Nat.reduceLeDiff,Nat.reduceAdd,Nat.reduceSub,Nat.reduceMul,Int.reduceAdd,Int.reduceSub,Int.reduceMul,Int.reduceNeg,Int.reduceLE,Int.reduceLT,Int.reduceEq,Int.reduceToNat])
        exact share.out
      · have h1 : decide ((i' : Int) > 0) = true := by simp; omega
        have h2 : decide ((k' : Int) > 0) = true := by simp; omega
        have t1 : ((i' : Int) - 1).toNat = i' - 1 := by omega
        have t2 : ((k' : Int) - 1).toNat = k' - 1 := by omega
        have g1 : a[i' - 1]? = some (a[i' - 1]'(by omega)) := List.getElem?_eq_getElem _
        have g2 : b[k' - 1]? = some (b[k' - 1]'(by omega)) := List.getElem?_eq_getElem _
        have g3 : decide (a[i' - 1]'(by omega) = b[k' - 1]'(by omega)) = false := by
          rw [g1, g2] at h''
          simpa using h''
        (try simp only [h1, h2, t1, t2, g1, g2, g3, ex,reduceIte,reduceCtorEq,Nat.reduceEqDiff,Nat.reduceLT,Nat.reduceLeDiff,Nat.reduceAdd,Nat.reduceSub,Nat.reduceMul,Int.reduceAdd,Int.reduceSub,Int.reduceMul,Int.reduceNeg,Int.reduceLE,Int.reduceLT,Int.reduceEq,Int.reduceToNat]) <;> repeat ((with_reducible refine Req.intro ?_ ?_); (first | omega | (simp <;> omega)); try simp only [h1, h2, t1, t2, g1, g2, g3, ex,reduceIte,reduceCtorEq,Nat.reduceEqDiff,Nat.reduceLT,Nat.reduceLeDiff,Nat.reduceAdd,Nat.reduceSub,Nat.reduceMul,Int.reduceAdd,Int.reduceSub,Int.reduceMul,Int.reduceNeg,Int.reduceLE,Int.reduceLT,Int.reduceEq,Int.reduceToNat])
        exact share.out
    · refine loopI fun L2 hL2 => ?_
      (try simp only [ex,reduceIte,reduceCtorEq,Nat.reduceEqDiff,Nat.reduceLT,Nat.reduceLeDiff,Nat.reduceAdd,Nat.reduceSub,Nat.reduceMul,Int.reduceAdd,Int.reduceSub,Int.reduceMul,Int.reduceNeg,Int.reduceLE,Int.reduceLT,Int.reduceEq,Int.reduceToNat]) <;> repeat ((with_reducible refine Req.intro ?_ ?_); (first | omega | (simp <;> omega)); try simp only [ex,reduceIte,reduceCtorEq,Nat.reduceEqDiff,Nat.reduceLT,Nat.reduceLeDiff,Nat.reduceAdd,Nat.reduceSub,Nat.reduceMul,Int.reduceAdd,Int.reduceSub,Int.reduceMul,Int.reduceNeg,Int.reduceLE,Int.reduceLT,Int.reduceEq,Int.reduceToNat])
      have key2 : ∀ m n : Nat, n + m = lcp (a.drop i') (b.drop k') → L2 (L29_2 (.sl o 1 (a.map .str)) (.sl o' 1 (b.map .str)) (.int .i64 i') (.int .i64 k') (.ptr 0 3 0 0) (.int .i64 n) 0 [.int .i64 0, .int .i64 0, .int .i64 0] [] 1) := by
        have hle := lcp_le (a.drop i') (b.drop k')
        simp only [List.length_drop] at hle
        intro m
        induction m with
        | zero =>
          intro n hn
          apply hL2
          simp only [L29_2, l29_2, ex,reduceIte,reduceCtorEq,Nat.reduceEqDiff,Nat.reduceLT,Nat.reduceLeDiff,Nat.reduceAdd,Nat.reduceSub,Nat.reduceMul,Int.reduceAdd,Int.reduceSub,Int.reduceMul,Int.reduceNeg,Int.reduceLE,Int.reduceLT,Int.reduceEq,Int.reduceToNat]
          have hend : ∀ s t, a[i' + n]? = some s → b[k' + n]? = some t → s ≠ t := fun s t h1 h2 => by
            rw [← drop_get] at h1 h2
            rw [Nat.add_zero] at hn
            rw [hn] at h1 h2
            exact lcp_end _ _ s t h1 h2
          have hr : (runOf a b i k) = ⟨i', k', n⟩ := by
            unfold runOf; rw [he]; simp only [← hn]; rfl
          (try simp only [ex,reduceIte,reduceCtorEq,Nat.reduceEqDiff,Nat.reduceLT,Nat.reduceLeDiff,Nat.reduceAdd,Nat.reduceSub,Nat.reduceMul,Int.reduceAdd,Int.reduceSub,Int.reduceMul,Int.reduceNeg,Int.reduceLE,Int.reduceLT,Int.reduceEq,Int.reduceToNat]) <;> repeat ((with_reducible refine Req.intro ?_ ?_); (first | omega | (simp <;> omega)); try simp only [ex,reduceIte,reduceCtorEq,Nat.reduceEqDiff,Nat.reduceLT,Nat.reduceLeDiff,Nat.reduceAdd,Nat.reduceSub,Nat.reduceMul,Int.reduceAdd,Int.reduceSub,Int.reduceMul,Int.reduceNeg,Int.reduceLE,Int.reduceLT,Int.reduceEq,Int.reduceToNat])
          have v12 : (decide ((i' : Int) + (n : Int) < (a.length : Int)) = false) ∨ (decide ((i' : Int) + (n : Int) < (a.length : Int)) = true ∧ decide ((k' : Int) + (n : Int) < (b.length : Int)) = false) ∨ (decide ((i' : Int) + (n : Int) < (a.length : Int)) = true ∧ decide ((k' : Int) + (n : Int) < (b.length : Int)) = true ∧ ∃ x y, a[i' + n]? = some x ∧ b[k' + n]? = some y ∧ decide (x = y) = false) := by
            rcases Classical.em (i' + n < a.length) with c1 | c1
            · rcases Classical.em (k' + n < b.length) with c2 | c2
              · exact .inr (.inr ⟨by simp; omega, by simp; omega, _, _, List.getElem?_eq_getElem c1, List.getElem?_eq_getElem c2, by simpa using hend _ _ (List.getElem?_eq_getElem c1) (List.getElem?_eq_getElem c2)⟩)
              · exact .inr (.inl ⟨by simp; omega, by simp; omega⟩)
            · exact .inl (by simp; omega)
          apply shareL
          · intro share
            rcases v12 with v1 | ⟨v1, v2⟩ | ⟨v1, v2, x1, y1, u1, u2, u3⟩
            · (try simp only [v1, ex,reduceIte,reduceCtorEq,Nat.reduceEqDiff,Nat.reduceLT,Nat.reduceLeDiff,Nat.reduceAdd,Nat.reduceSub,Nat.reduceMul,Int.reduceAdd,Int.reduceSub,Int.reduceMul,Int.reduceNeg,Int.reduceLE,Int.reduceLT,Int.reduceEq,Int.reduceToNat]) <;> repeat ((with_reducible refine Req.intro ?_ ?_); (first | omega | (simp <;> omega)); try simp only [v1, ex,reduceIte,reduceCtorEq,Nat.reduceEqDiff,Nat.reduceLT,Nat.reduceLeDiff,Nat.reduceAdd,Nat.reduceSub,Nat.reduceMul,Int.reduceAdd,Int.reduceSub,Int.reduceMul,Int.reduceNeg,Int.reduceLE,Int.reduceLT,Int.reduceEq,Int.reduceToNat])
              exact share.out
            · (try simp only [v1, v2, ex,reduceIte,reduceCtorEq,Nat.reduceEqDiff,Nat.reduceLT,Nat.reduceLeDiff,Nat.reduceAdd,Nat.reduceSub,Nat.reduceMul,Int.reduceAdd,Int.reduceSub,Int.reduceMul,Int.reduceNeg,Int.reduceLE,Int.reduceLT,Int.reduceEq,Int.reduceToNat]) <;> repeat ((with_reducible refine Req.intro ?_ ?_); (first | omega | (simp <;> omega)); try simp only [v1, v2, ex,reduceIte,reduceCtorEq,Nat.reduceEqDiff,Nat.reduceLT,Nat.reduceLeDiff,Nat.reduceAdd,Nat.reduceSub,Nat.reduceMul,Int.reduceAdd,Int.reduceSub,Int.reduceMul,Int.reduceNeg,Int.reduceLE,Int.reduceLT,Int.reduceEq,Int.reduceToNat])
              exact share.out
            · (try simp only [v1, v2, u1, u2, u3, ex,reduceIte,reduceCtorEq,Nat.reduceEqDiff,Nat.reduceLT,Nat.reduceLeDiff,Nat.reduceAdd,Nat.reduceSub,Nat.reduceMul,Int.reduceAdd,Int.reduceSub,Int.reduceMul,Int.reduceNeg,Int.reduceLE,Int.reduceLT,Int.reduceEq,Int.reduceToNat]) <;> repeat ((with_reducible refine Req.intro ?_ ?_); (first | omega | (simp <;> omega)); try simp only [v1, v2, u1, u2, u3, ex,reduceIte,reduceCtorEq,Nat.reduceEqDiff,Nat.reduceLT,Nat.reduceLeDiff,Nat.reduceAdd,Nat.reduceSub,Nat.reduceMul,Int.reduceAdd,Int.reduceSub,Int.reduceMul,Int.reduceNeg,Int.reduceLE,Int.reduceLT,Int.reduceEq,Int.reduceToNat])
              exact share.out
          · rw [hr]
        | succ m ih =>
          intro n hn
          apply hL2
          simp only [L29_2, l29_2, ex,reduceIte,reduceCtorEq,Nat.reduceEqDiff,Nat.reduceLT,Nat.reduceLeDiff,Nat.reduceAdd,Nat.reduceSub,Nat.reduceMul,Int.reduceAdd,Int.reduceSub,Int.reduceMul,Int.reduceNeg,Int.reduceLE,Int.reduceLT,Int.reduceEq,Int.reduceToNat]
          obtain ⟨s, g1, g2⟩ := lcp_lt (a.drop i') (b.drop k') n (by omega)
          rw [drop_get] at g1 g2
          have c1 := (List.getElem?_eq_some_iff.1 g1).1
          have c2 := (List.getElem?_eq_some_iff.1 g2).1
          (try simp only [ex,reduceIte,reduceCtorEq,Nat.reduceEqDiff,Nat.reduceLT,Nat.reduceLeDiff,Nat.reduceAdd,Nat.reduceSub,Nat.reduceMul,Int.reduceAdd,Int.reduceSub,Int.reduceMul,Int.reduceNeg,Int.reduceLE,Int.reduceLT,Int.reduceEq,Int.reduceToNat]) <;> repeat ((with_reducible refine Req.intro ?_ ?_); (first | omega | (simp <;> omega)); try simp only [ex,reduceIte,reduceCtorEq,Nat.reduceEqDiff,Nat.reduceLT,Nat.reduceLeDiff,Nat.reduceAdd,Nat.reduceSub,Nat.reduceMul,Int.reduceAdd,Int.reduceSub,Int.reduceMul,Int.reduceNeg,Int.reduceLE,Int.reduceLT,Int.reduceEq,Int.reduceToNat])
          have h1 : decide ((i' : Int) + (n : Int) < (a.length : Int)) = true := by simp; omega
          have h2 : decide ((k' : Int) + (n : Int) < (b.length : Int)) = true := by simp; omega
          (try simp only [h1, h2, g1, g2, ex,reduceIte,reduceCtorEq,Nat.reduceEqDiff,Nat.reduceLT,Nat.reduceLeDiff,Nat.reduceAdd,Nat.reduceSub,Nat.reduceMul,Int.reduceAdd,Int.reduceSub,Int.reduceMul,Int.reduceNeg,Int.reduceLE,Int.reduceLT,Int.reduceEq,Int.reduceToNat]) <;> repeat ((with_reducible refine Req.intro ?_ ?_); (first | omega | (simp <;> omega)); try simp only [h1, h2, g1, g2, ex,reduceIte,reduceCtorEq,Nat.reduceEqDiff,Nat.reduceLT,Nat.reduceLeDiff,Nat.reduceAdd,Nat.reduceSub,Nat.reduceMul,Int.reduceAdd,Int.reduceSub,Int.reduceMul,Int.reduceNeg,Int.reduceLE,Int.reduceLT,Int.reduceEq,Int.reduceToNat])
          exact ih (n + 1) (by omega)
      exact key2 (lcp (a.drop i') (b.drop k')) 0 (Nat.zero_add _)
  have key : ∀ i' k' : Nat, i' ≤ i → k' ≤ k → back a b i' k' = back a b i k → L (L29_1 (.sl o 1 (a.map .str)) (.sl o' 1 (b.map .str)) (.int .i64 i') (.int .i64 k') (.ptr 0 3 0 0) 0 [.int .i64 0, .int .i64 0, .int .i64 0] [] 1) := by
    intro i'
    induction i' with
    | zero => intro k' h1 h2 he; exact fin 0 k' h1 h2 he.symm (.inl rfl)
    | succ i' ih =>
      intro k' h1 h2 he
      cases k' with
      | zero => exact fin _ 0 h1 h2 he.symm (.inr (.inl ⟨by omega, rfl⟩))
      | succ k' =>
        rcases Classical.em (a[i']? = b[k']?) with c | c
        · have he' := he
          simp only [back, if_pos c] at he
          apply hL
          simp only [L29_1, l29_1, ex,reduceIte,reduceCtorEq,Nat.reduceEqDiff,Nat.reduceLT,Nat.reduceLeDiff,Nat.reduceAdd,Nat.reduceSub,Nat.reduceMul,Int.reduceAdd,Int.reduceSub,Int.reduceMul,Int.reduceNeg,Int.reduceLE,Int.reduceLT,Int.reduceEq,Int.reduceToNat]
          have h1' : decide (((i' + 1 : Nat) : Int) > 0) = true := by simp <;> omega
          have h2' : decide (((k' + 1 : Nat) : Int) > 0) = true := by simp <;> omega
          have t1 : (((i' + 1 : Nat) : Int) - 1) = i' := by omega
          have t2 : (((k' + 1 : Nat) : Int) - 1) = k' := by omega
          have g1 : a[i']? = some (a[i']'(by omega)) := List.getElem?_eq_getElem _
          have g2 : b[k']? = some (b[k']'(by omega)) := List.getElem?_eq_getElem _
          have g3 : decide (a[i']'(by omega) = b[k']'(by omega)) = true := by
            rw [g1, g2] at c
            simpa using c
          (try simp only [h1', h2', t1, t2, g1, g2, g3, ex,reduceIte,reduceCtorEq,Nat.reduceEqDiff,Nat.reduceLT,Nat.reduceLeDiff,Nat.reduceAdd,Nat.reduceSub,Nat.reduceMul,Int.reduceAdd,Int.reduceSub,Int.reduceMul,Int.reduceNeg,Int.reduceLE,Int.reduceLT,Int.reduceEq,Int.reduceToNat]) <;> repeat ((with_reducible refine Req.intro ?_ ?_); (first | omega | (simp <;> omega)); try simp only [h1', h2', t1, t2, g1, g2, g3, ex,reduceIte,reduceCtorEq,Nat.reduceEqDiff,Nat.reduceLT,Nat.reduceLeDiff,Nat.reduceAdd,Nat.reduceSub,Nat.reduceMul,Int.reduceAdd,Int.reduceSub,Int.reduceMul,Int.reduceNeg,Int.reduceLE,Int.reduceLT,Int.reduceEq,Int.reduceToNat])
          exact ih k' (by omega) (by omega) he
        · refine fin _ _ h1 h2 ?_ (.inr (.inr ⟨by omega, by omega, by simpa using c⟩))
          simp only [back, if_neg c] at he
          exact he.symm
  exact key i k (Nat.le_refl _) (Nat.le_refl _) rfl
end Go.Proofs.Ytmmcepbcjlopdaa.E.Hs

/- How rare a run is, and which of two is taken: what the functions compute. Conditions: none. -/
namespace Go.Proofs.Ytmmcepbcjlopdaa.E.Hs
set_option linter.unusedVariables false
set_option linter.unusedSimpArgs false
set_option maxHeartbeats 20000000

theorem ifmin (a b : Nat) : (if (b : Int) < (a : Int) then (b : Int) else (a : Int)) = ((min a b : Nat) : Int) := by
  split <;> omega
theorem rare_le (m : Nat) (a : List S) (r : Rn) : rare m a r ≤ m := (fold_min_le a.count _ m).1

theorem rare_spec (o : Bool) (a : List S) (r : Rn) (hr : r.A + r.N ≤ a.length) (ha : a.length ≤ 17592186044416) : Run tab 30 0 [.sl o 1 (a.map .str), (.agg [.int .i64 (r).A, .int .i64 (r).B, .int .i64 (r).N])] [] 0 (fun x _ _ => x = .int .i64 (rare a.length a r : Nat)) := by
  refine enter (F := f30) rfl rfl ?_
  simp only [f30, ex,reduceIte,reduceCtorEq,Nat.reduceEqDiff,Nat.reduceLT,Nat.reduceLeDiff,Nat.reduceAdd,Nat.reduceSub,Nat.reduceMul,Int.reduceAdd,Int.reduceSub,Int.reduceMul,Int.reduceNeg,Int.reduceLE,Int.reduceLT,Int.reduceEq,Int.reduceToNat]
  (try simp only [ex,reduceIte,reduceCtorEq,Nat.reduceEqDiff,Nat.reduceLT,Nat.reduceLeDiff,Nat.reduceAdd,Nat.reduceSub,Nat.reduceMul,Int.reduceAdd,Int.reduceSub,Int.reduceMul,Int.reduceNeg,Int.reduceLE,Int.reduceLT,Int.reduceEq,Int.reduceToNat]) <;> repeat ((with_reducible refine Req.intro ?_ ?_); (first | omega | (simp <;> omega)); try simp only [ex,reduceIte,reduceCtorEq,Nat.reduceEqDiff,Nat.reduceLT,Nat.reduceLeDiff,Nat.reduceAdd,Nat.reduceSub,Nat.reduceMul,Int.reduceAdd,Int.reduceSub,Int.reduceMul,Int.reduceNeg,Int.reduceLE,Int.reduceLT,Int.reduceEq,Int.reduceToNat])
  refine loopI fun L hL => ?_
  (try simp only [ex,reduceIte,reduceCtorEq,Nat.reduceEqDiff,Nat.reduceLT,Nat.reduceLeDiff,Nat.reduceAdd,Nat.reduceSub,Nat.reduceMul,Int.reduceAdd,Int.reduceSub,Int.reduceMul,Int.reduceNeg,Int.reduceLE,Int.reduceLT,Int.reduceEq,Int.reduceToNat]) <;> repeat ((with_reducible refine Req.intro ?_ ?_); (first | omega | (simp <;> omega)); try simp only [ex,reduceIte,reduceCtorEq,Nat.reduceEqDiff,Nat.reduceLT,Nat.reduceLeDiff,Nat.reduceAdd,Nat.reduceSub,Nat.reduceMul,Int.reduceAdd,Int.reduceSub,Int.reduceMul,Int.reduceNeg,Int.reduceLE,Int.reduceLT,Int.reduceEq,Int.reduceToNat])
  have key : ∀ m i : Nat, i + m = r.N → L (L30_1 (.sl o 1 (a.map .str)) (.ptr 0 3 0 0) (.int .i64 ((((a.drop r.A).take i).foldl (fun m s => min m (a.count s)) a.length : Nat) : Int)) (.int .i64 i) 0 [.int .i64 r.A, .int .i64 r.B, .int .i64 r.N] [] 1) := by
    intro m
    induction m with
    | zero =>
      intro i hi
      apply hL
      simp only [L30_1, l30_1, ex,reduceIte,reduceCtorEq,Nat.reduceEqDiff,Nat.reduceLT,Nat.reduceLeDiff,Nat.reduceAdd,Nat.reduceSub,Nat.reduceMul,Int.reduceAdd,Int.reduceSub,Int.reduceMul,Int.reduceNeg,Int.reduceLE,Int.reduceLT,Int.reduceEq,Int.reduceToNat]
      have h1 : decide ((i : Int) < (r.N : Int)) = false := by simp; omega
      (try simp only [h1, ex,reduceIte,reduceCtorEq,Nat.reduceEqDiff,Nat.reduceLT,Nat.reduceLeDiff,Nat.reduceAdd,Nat.reduceSub,Nat.reduceMul,Int.reduceAdd,Int.reduceSub,Int.reduceMul,Int.reduceNeg,Int.reduceLE,Int.reduceLT,Int.reduceEq,Int.reduceToNat]) <;> repeat ((with_reducible refine Req.intro ?_ ?_); (first | omega | (simp <;> omega)); try simp only [h1, ex,reduceIte,reduceCtorEq,Nat.reduceEqDiff,Nat.reduceLT,Nat.reduceLeDiff,Nat.reduceAdd,Nat.reduceSub,Nat.reduceMul,Int.reduceAdd,Int.reduceSub,Int.reduceMul,Int.reduceNeg,Int.reduceLE,Int.reduceLT,Int.reduceEq,Int.reduceToNat])
      rw [show i = r.N by omega]
      rfl
    | succ m ih =>
      intro i hi
      apply hL
      simp only [L30_1, l30_1, ex,reduceIte,reduceCtorEq,Nat.reduceEqDiff,Nat.reduceLT,Nat.reduceLeDiff,Nat.reduceAdd,Nat.reduceSub,Nat.reduceMul,Int.reduceAdd,Int.reduceSub,Int.reduceMul,Int.reduceNeg,Int.reduceLE,Int.reduceLT,Int.reduceEq,Int.reduceToNat]
      have h1 : decide ((i : Int) < (r.N : Int)) = true := by simp; omega
      have g1 : a[r.A + i]? = some (a[r.A + i]'(by omega)) := List.getElem?_eq_getElem _
      generalize hx : a[r.A + i]'(by omega) = x at g1
      (try simp only [h1, g1, ex,reduceIte,reduceCtorEq,Nat.reduceEqDiff,Nat.reduceLT,Nat.reduceLeDiff,Nat.reduceAdd,Nat.reduceSub,Nat.reduceMul,Int.reduceAdd,Int.reduceSub,Int.reduceMul,Int.reduceNeg,Int.reduceLE,Int.reduceLT,Int.reduceEq,Int.reduceToNat]) <;> repeat ((with_reducible refine Req.intro ?_ ?_); (first | omega | (simp <;> omega)); try simp only [h1, g1, ex,reduceIte,reduceCtorEq,Nat.reduceEqDiff,Nat.reduceLT,Nat.reduceLeDiff,Nat.reduceAdd,Nat.reduceSub,Nat.reduceMul,Int.reduceAdd,Int.reduceSub,Int.reduceMul,Int.reduceNeg,Int.reduceLE,Int.reduceLT,Int.reduceEq,Int.reduceToNat])
      refine CallA.eq rfl (rcount_spec _ _ _ ha) rfl ?_
      have hf := (fold_min_le a.count ((a.drop r.A).take i) a.length).1
      (try simp only [ifmin, ex,reduceIte,reduceCtorEq,Nat.reduceEqDiff,Nat.reduceLT,Nat.reduceLeDiff,Nat.reduceAdd,Nat.reduceSub,Nat.reduceMul,Int.reduceAdd,Int.reduceSub,Int.reduceMul,Int.reduceNeg,Int.reduceLE,Int.reduceLT,Int.reduceEq,Int.reduceToNat]) <;> repeat ((with_reducible refine Req.intro ?_ ?_); (first | omega | (simp <;> omega)); try simp only [ifmin, ex,reduceIte,reduceCtorEq,Nat.reduceEqDiff,Nat.reduceLT,Nat.reduceLeDiff,Nat.reduceAdd,Nat.reduceSub,Nat.reduceMul,Int.reduceAdd,Int.reduceSub,Int.reduceMul,Int.reduceNeg,Int.reduceLE,Int.reduceLT,Int.reduceEq,Int.reduceToNat])
      have h2 := ih (i + 1) (by omega)
      rw [List.take_add_one, drop_get, g1] at h2
      simpa [L30_1, List.foldl_append] using h2
  exact key r.N 0 (Nat.zero_add _)

theorem better_spec (o : Bool) (a : List S) (x y : Rn) (hx : x.A + x.N ≤ a.length) (hy : y.A + y.N ≤ a.length) (ha : a.length ≤ 17592186044416) : Run tab 31 0 [.sl o 1 (a.map .str), (.agg [.int .i64 (x).A, .int .i64 (x).B, .int .i64 (x).N]), (.agg [.int .i64 (y).A, .int .i64 (y).B, .int .i64 (y).N])] [] 0 (fun z _ _ => z = .bool (bet a.length a x y)) := by
  refine enter (F := f31) rfl rfl ?_
  simp only [f31, ex,reduceIte,reduceCtorEq,Nat.reduceEqDiff,Nat.reduceLT,Nat.reduceLeDiff,Nat.reduceAdd,Nat.reduceSub,Nat.reduceMul,Int.reduceAdd,Int.reduceSub,Int.reduceMul,Int.reduceNeg,Int.reduceLE,Int.reduceLT,Int.reduceEq,Int.reduceToNat]
  (try simp only [ex,reduceIte,reduceCtorEq,Nat.reduceEqDiff,Nat.reduceLT,Nat.reduceLeDiff,Nat.reduceAdd,Nat.reduceSub,Nat.reduceMul,Int.reduceAdd,Int.reduceSub,Int.reduceMul,Int.reduceNeg,Int.reduceLE,Int.reduceLT,Int.reduceEq,Int.reduceToNat]) <;> repeat ((with_reducible refine Req.intro ?_ ?_); (first | omega | (simp <;> omega)); try simp only [ex,reduceIte,reduceCtorEq,Nat.reduceEqDiff,Nat.reduceLT,Nat.reduceLeDiff,Nat.reduceAdd,Nat.reduceSub,Nat.reduceMul,Int.reduceAdd,Int.reduceSub,Int.reduceMul,Int.reduceNeg,Int.reduceLE,Int.reduceLT,Int.reduceEq,Int.reduceToNat])
  refine CallD.eq rfl (rare_spec _ a x hx ha) rfl ?_
  (try simp only [ex,reduceIte,reduceCtorEq,Nat.reduceEqDiff,Nat.reduceLT,Nat.reduceLeDiff,Nat.reduceAdd,Nat.reduceSub,Nat.reduceMul,Int.reduceAdd,Int.reduceSub,Int.reduceMul,Int.reduceNeg,Int.reduceLE,Int.reduceLT,Int.reduceEq,Int.reduceToNat]) <;> repeat ((with_reducible refine Req.intro ?_ ?_); (first | omega | (simp <;> omega)); try simp only [ex,reduceIte,reduceCtorEq,Nat.reduceEqDiff,Nat.reduceLT,Nat.reduceLeDiff,Nat.reduceAdd,Nat.reduceSub,Nat.reduceMul,Int.reduceAdd,Int.reduceSub,Int.reduceMul,Int.reduceNeg,Int.reduceLE,Int.reduceLT,Int.reduceEq,Int.reduceToNat])
  refine CallD.eq rfl (rare_spec _ a y hy ha) rfl ?_
  (try simp only [ex,reduceIte,reduceCtorEq,Nat.reduceEqDiff,Nat.reduceLT,Nat.reduceLeDiff,Nat.reduceAdd,Nat.reduceSub,Nat.reduceMul,Int.reduceAdd,Int.reduceSub,Int.reduceMul,Int.reduceNeg,Int.reduceLE,Int.reduceLT,Int.reduceEq,Int.reduceToNat]) <;> repeat ((with_reducible refine Req.intro ?_ ?_); (first | omega | (simp <;> omega)); try simp only [ex,reduceIte,reduceCtorEq,Nat.reduceEqDiff,Nat.reduceLT,Nat.reduceLeDiff,Nat.reduceAdd,Nat.reduceSub,Nat.reduceMul,Int.reduceAdd,Int.reduceSub,Int.reduceMul,Int.reduceNeg,Int.reduceLE,Int.reduceLT,Int.reduceEq,Int.reduceToNat])
  unfold bet
  refine ifB.intro (fun h => ?_) (fun h => ?_)
  · replace h : rare a.length a x = rare a.length a y := by have := of_decide_eq_true h; omega
    (try simp only [ex,reduceIte,reduceCtorEq,Nat.reduceEqDiff,Nat.reduceLT,Nat.reduceLeDiff,Nat.reduceAdd,Nat.reduceSub,Nat.reduceMul,Int.reduceAdd,Int.reduceSub,Int.reduceMul,Int.reduceNeg,Int.reduceLE,Int.reduceLT,Int.reduceEq,Int.reduceToNat]) <;> repeat ((with_reducible refine Req.intro ?_ ?_); (first | omega | (simp <;> omega)); try simp only [ex,reduceIte,reduceCtorEq,Nat.reduceEqDiff,Nat.reduceLT,Nat.reduceLeDiff,Nat.reduceAdd,Nat.reduceSub,Nat.reduceMul,Int.reduceAdd,Int.reduceSub,Int.reduceMul,Int.reduceNeg,Int.reduceLE,Int.reduceLT,Int.reduceEq,Int.reduceToNat])
    refine ifB.intro (fun h' => ?_) (fun h' => ?_)
    · replace h' : x.N = y.N := by have := of_decide_eq_true h'; omega
      (try simp only [ex,reduceIte,reduceCtorEq,Nat.reduceEqDiff,Nat.reduceLT,Nat.reduceLeDiff,Nat.reduceAdd,Nat.reduceSub,Nat.reduceMul,Int.reduceAdd,Int.reduceSub,Int.reduceMul,Int.reduceNeg,Int.reduceLE,Int.reduceLT,Int.reduceEq,Int.reduceToNat]) <;> repeat ((with_reducible refine Req.intro ?_ ?_); (first | omega | (simp <;> omega)); try simp only [ex,reduceIte,reduceCtorEq,Nat.reduceEqDiff,Nat.reduceLT,Nat.reduceLeDiff,Nat.reduceAdd,Nat.reduceSub,Nat.reduceMul,Int.reduceAdd,Int.reduceSub,Int.reduceMul,Int.reduceNeg,Int.reduceLE,Int.reduceLT,Int.reduceEq,Int.reduceToNat])
      refine ifB.intro (fun h'' => ?_) (fun h'' => ?_)
      · replace h'' : x.A = y.A := by have := of_decide_eq_true h''; omega
        (try simp only [ex,reduceIte,reduceCtorEq,Nat.reduceEqDiff,Nat.reduceLT,Nat.reduceLeDiff,Nat.reduceAdd,Nat.reduceSub,Nat.reduceMul,Int.reduceAdd,Int.reduceSub,Int.reduceMul,Int.reduceNeg,Int.reduceLE,Int.reduceLT,Int.reduceEq,Int.reduceToNat]) <;> repeat ((with_reducible refine Req.intro ?_ ?_); (first | omega | (simp <;> omega)); try simp only [ex,reduceIte,reduceCtorEq,Nat.reduceEqDiff,Nat.reduceLT,Nat.reduceLeDiff,Nat.reduceAdd,Nat.reduceSub,Nat.reduceMul,Int.reduceAdd,Int.reduceSub,Int.reduceMul,Int.reduceNeg,Int.reduceLE,Int.reduceLT,Int.reduceEq,Int.reduceToNat])
        simp [h, h', h'']
      · (try simp only [ex,reduceIte,reduceCtorEq,Nat.reduceEqDiff,Nat.reduceLT,Nat.reduceLeDiff,Nat.reduceAdd,Nat.reduceSub,Nat.reduceMul,Int.reduceAdd,Int.reduceSub,Int.reduceMul,Int.reduceNeg,Int.reduceLE,Int.reduceLT,Int.reduceEq,Int.reduceToNat]) <;> repeat ((with_reducible refine Req.intro ?_ ?_); (first | omega | (simp <;> omega)); try simp only [ex,reduceIte,reduceCtorEq,Nat.reduceEqDiff,Nat.reduceLT,Nat.reduceLeDiff,Nat.reduceAdd,Nat.reduceSub,Nat.reduceMul,Int.reduceAdd,Int.reduceSub,Int.reduceMul,Int.reduceNeg,Int.reduceLE,Int.reduceLT,Int.reduceEq,Int.reduceToNat])
        replace h'' : ¬ x.A = y.A := by have := of_decide_eq_false h''; omega
        simp [h, h', h'']
    · (try simp only [ex,reduceIte,reduceCtorEq,Nat.reduceEqDiff,Nat.reduceLT,Nat.reduceLeDiff,Nat.reduceAdd,Nat.reduceSub,Nat.reduceMul,Int.reduceAdd,Int.reduceSub,Int.reduceMul,Int.reduceNeg,Int.reduceLE,Int.reduceLT,Int.reduceEq,Int.reduceToNat]) <;> repeat ((with_reducible refine Req.intro ?_ ?_); (first | omega | (simp <;> omega)); try simp only [ex,reduceIte,reduceCtorEq,Nat.reduceEqDiff,Nat.reduceLT,Nat.reduceLeDiff,Nat.reduceAdd,Nat.reduceSub,Nat.reduceMul,Int.reduceAdd,Int.reduceSub,Int.reduceMul,Int.reduceNeg,Int.reduceLE,Int.reduceLT,Int.reduceEq,Int.reduceToNat])
      replace h' : ¬ x.N = y.N := by have := of_decide_eq_false h'; omega
      simp [h, h']
  · (try simp only [ex,reduceIte,reduceCtorEq,Nat.reduceEqDiff,Nat.reduceLT,Nat.reduceLeDiff,Nat.reduceAdd,Nat.reduceSub,Nat.reduceMul,Int.reduceAdd,Int.reduceSub,Int.reduceMul,Int.reduceNeg,Int.reduceLE,Int.reduceLT,Int.reduceEq,Int.reduceToNat]) <;> repeat ((with_reducible refine Req.intro ?_ ?_); (first | omega | (simp <;> omega)); try simp only [ex,reduceIte,reduceCtorEq,Nat.reduceEqDiff,Nat.reduceLT,Nat.reduceLeDiff,Nat.reduceAdd,Nat.reduceSub,Nat.reduceMul,Int.reduceAdd,Int.reduceSub,Int.reduceMul,Int.reduceNeg,Int.reduceLE,Int.reduceLT,Int.reduceEq,Int.reduceToNat])
    replace h : ¬ rare a.length a x = rare a.length a y := by have := of_decide_eq_false h; omega
    simp [h]
end Go.Proofs.Ytmmcepbcjlopdaa.E.Hs

/- The reference's anchor: what it computes. Conditions: none. -/
namespace Go.Proofs.Ytmmcepbcjlopdaa.E.Hs
set_option linter.unusedVariables false
set_option linter.unusedSimpArgs false
set_option maxHeartbeats 20000000

/-- One pair of places: the run through it may be the better one. -/
def rtake (a : List S) (x : Rn) (o : Option Rn) : Bool := decide (rare a.length a x ≤ 64) && (match o with | none => true | some r => bet a.length a x r)
def rstep (a b : List S) (i k : Nat) (o : Option Rn) : Option Rn :=
  if a[i]? = b[k]? then (if rtake a (runOf a b i k) o = true then some (runOf a b i k) else o) else o
def rIn (a b : List S) (i : Nat) : Nat → Nat → Option Rn → Option Rn
  | 0, _, o => o
  | m + 1, k, o => rIn a b i m (k + 1) (rstep a b i k o)
def rOut (a b : List S) : Nat → Nat → Option Rn → Option Rn
  | 0, _, o => o
  | m + 1, i, o => rOut a b m (i + 1) (rIn a b i b.length 0 o)
def bestR (o : Option Rn) : Rn := o.getD ⟨0, 0, 0⟩
def Fits (a b : List S) (o : Option Rn) : Prop := ∀ r, o = some r → r.A + r.N ≤ a.length ∧ r.B + r.N ≤ b.length

theorem runOf_fits (a b : List S) (i k : Nat) (hi : i < a.length) (hk : k < b.length) : (runOf a b i k).A + (runOf a b i k).N ≤ a.length ∧ (runOf a b i k).B + (runOf a b i k).N ≤ b.length := by
  have h := back_le a b i k
  have h2 := lcp_le (a.drop (back a b i k).1) (b.drop (back a b i k).2)
  simp only [List.length_drop] at h2
  simp only [runOf]
  omega
theorem rstep_fits {a b : List S} {i k : Nat} {o : Option Rn} (hi : i < a.length) (hk : k < b.length) (h : Fits a b o) : Fits a b (rstep a b i k o) := by
  unfold rstep
  split
  · rcases Classical.em (rtake a (runOf a b i k) o = true) with c | c
    · rw [if_pos c]; intro r hr; injection hr with hr; subst hr; exact runOf_fits a b i k hi hk
    · rw [if_neg c]; exact h
  · exact h
theorem rIn_fits {a b : List S} {i : Nat} (hi : i < a.length) : ∀ (m k : Nat) (o : Option Rn), k + m = b.length → Fits a b o → Fits a b (rIn a b i m k o)
  | 0, _, _, _, h => h
  | m + 1, k, o, hk, h => rIn_fits hi m (k + 1) _ (by omega) (rstep_fits hi (by omega) h)

theorem ranchor_spec (o o' : Bool) (a b : List S) (ha : a.length ≤ 17592186044416) (hb : b.length ≤ 17592186044416) :
    Run tab 14 0 [.sl o 1 (a.map .str), .sl o' 1 (b.map .str)] [] 0 (fun r _ _ => r = .tup [(.agg [.int .i64 (bestR (rOut a b a.length 0 none)).A, .int .i64 (bestR (rOut a b a.length 0 none)).B, .int .i64 (bestR (rOut a b a.length 0 none)).N]), .bool (rOut a b a.length 0 none).isSome]) := by
  refine enter (F := f14) rfl rfl ?_
  simp only [f14, ex,reduceIte,reduceCtorEq,Nat.reduceEqDiff,Nat.reduceLT,Nat.reduceLeDiff,Nat.reduceAdd,Nat.reduceSub,Nat.reduceMul,Int.reduceAdd,Int.reduceSub,Int.reduceMul,Int.reduceNeg,Int.reduceLE,Int.reduceLT,Int.reduceEq,Int.reduceToNat]
  (try simp only [ex,reduceIte,reduceCtorEq,Nat.reduceEqDiff,Nat.reduceLT,Nat.reduceLeDiff,Nat.reduceAdd,Nat.reduceSub,Nat.reduceMul,Int.reduceAdd,Int.reduceSub,Int.reduceMul,Int.reduceNeg,Int.reduceLE,Int.reduceLT,Int.reduceEq,Int.reduceToNat]) <;> repeat ((with_reducible refine Req.intro ?_ ?_); (first | omega | (simp <;> omega)); try simp only [ex,reduceIte,reduceCtorEq,Nat.reduceEqDiff,Nat.reduceLT,Nat.reduceLeDiff,Nat.reduceAdd,Nat.reduceSub,Nat.reduceMul,Int.reduceAdd,Int.reduceSub,Int.reduceMul,Int.reduceNeg,Int.reduceLE,Int.reduceLT,Int.reduceEq,Int.reduceToNat])
  refine loopI fun L hL => ?_
  (try simp only [ex,reduceIte,reduceCtorEq,Nat.reduceEqDiff,Nat.reduceLT,Nat.reduceLeDiff,Nat.reduceAdd,Nat.reduceSub,Nat.reduceMul,Int.reduceAdd,Int.reduceSub,Int.reduceMul,Int.reduceNeg,Int.reduceLE,Int.reduceLT,Int.reduceEq,Int.reduceToNat]) <;> repeat ((with_reducible refine Req.intro ?_ ?_); (first | omega | (simp <;> omega)); try simp only [ex,reduceIte,reduceCtorEq,Nat.reduceEqDiff,Nat.reduceLT,Nat.reduceLeDiff,Nat.reduceAdd,Nat.reduceSub,Nat.reduceMul,Int.reduceAdd,Int.reduceSub,Int.reduceMul,Int.reduceNeg,Int.reduceLE,Int.reduceLT,Int.reduceEq,Int.reduceToNat])
  have key : ∀ (m i n : Nat) (w : Option Rn), i + m = a.length → Fits a b w → rOut a b m i w = rOut a b a.length 0 none → L (L14_2 (.sl o 1 (a.map .str)) (.sl o' 1 (b.map .str)) (.ptr 0 3 0 0) (.ptr 1 3 0 0) (.bool w.isSome) (.int .i64 i) 0 [.int .i64 0, .int .i64 0, .int .i64 0] 1 [.int .i64 (bestR w).A, .int .i64 (bestR w).B, .int .i64 (bestR w).N] [] n) := by
    intro m
    induction m with
    | zero =>
      intro i n w hi hw he
      apply hL
      simp only [L14_2, l14_2, ex,reduceIte,reduceCtorEq,Nat.reduceEqDiff,Nat.reduceLT,Nat.reduceLeDiff,Nat.reduceAdd,Nat.reduceSub,Nat.reduceMul,Int.reduceAdd,Int.reduceSub,Int.reduceMul,Int.reduceNeg,Int.reduceLE,Int.reduceLT,Int.reduceEq,Int.reduceToNat]
      have h1 : decide ((i : Int) < (a.length : Int)) = false := by simp; omega
      rw [← he]
      (try simp only [h1, ex,reduceIte,reduceCtorEq,Nat.reduceEqDiff,Nat.reduceLT,Nat.reduceLeDiff,Nat.reduceAdd,Nat.reduceSub,Nat.reduceMul,Int.reduceAdd,Int.reduceSub,Int.reduceMul,Int.reduceNeg,Int.reduceLE,Int.reduceLT,Int.reduceEq,Int.reduceToNat]) <;> repeat ((with_reducible refine Req.intro ?_ ?_); (first | omega | (simp <;> omega)); try simp only [h1, ex,reduceIte,reduceCtorEq,Nat.reduceEqDiff,Nat.reduceLT,Nat.reduceLeDiff,Nat.reduceAdd,Nat.reduceSub,Nat.reduceMul,Int.reduceAdd,Int.reduceSub,Int.reduceMul,Int.reduceNeg,Int.reduceLE,Int.reduceLT,Int.reduceEq,Int.reduceToNat])
      rfl
    | succ m ih =>
      intro i n w hi hw he
      apply hL
      simp only [L14_2, l14_2, ex,reduceIte,reduceCtorEq,Nat.reduceEqDiff,Nat.reduceLT,Nat.reduceLeDiff,Nat.reduceAdd,Nat.reduceSub,Nat.reduceMul,Int.reduceAdd,Int.reduceSub,Int.reduceMul,Int.reduceNeg,Int.reduceLE,Int.reduceLT,Int.reduceEq,Int.reduceToNat]
      have h1 : decide ((i : Int) < (a.length : Int)) = true := by simp; omega
      (try simp only [h1, ex,reduceIte,reduceCtorEq,Nat.reduceEqDiff,Nat.reduceLT,Nat.reduceLeDiff,Nat.reduceAdd,Nat.reduceSub,Nat.reduceMul,Int.reduceAdd,Int.reduceSub,Int.reduceMul,Int.reduceNeg,Int.reduceLE,Int.reduceLT,Int.reduceEq,Int.reduceToNat]) <;> repeat ((with_reducible refine Req.intro ?_ ?_); (first | omega | (simp <;> omega)); try simp only [h1, ex,reduceIte,reduceCtorEq,Nat.reduceEqDiff,Nat.reduceLT,Nat.reduceLeDiff,Nat.reduceAdd,Nat.reduceSub,Nat.reduceMul,Int.reduceAdd,Int.reduceSub,Int.reduceMul,Int.reduceNeg,Int.reduceLE,Int.reduceLT,Int.reduceEq,Int.reduceToNat])
      refine loopI fun L2 hL2 => ?_
      (try simp only [ex,reduceIte,reduceCtorEq,Nat.reduceEqDiff,Nat.reduceLT,Nat.reduceLeDiff,Nat.reduceAdd,Nat.reduceSub,Nat.reduceMul,Int.reduceAdd,Int.reduceSub,Int.reduceMul,Int.reduceNeg,Int.reduceLE,Int.reduceLT,Int.reduceEq,Int.reduceToNat]) <;> repeat ((with_reducible refine Req.intro ?_ ?_); (first | omega | (simp <;> omega)); try simp only [ex,reduceIte,reduceCtorEq,Nat.reduceEqDiff,Nat.reduceLT,Nat.reduceLeDiff,Nat.reduceAdd,Nat.reduceSub,Nat.reduceMul,Int.reduceAdd,Int.reduceSub,Int.reduceMul,Int.reduceNeg,Int.reduceLE,Int.reduceLT,Int.reduceEq,Int.reduceToNat])
      have key2 : ∀ (m2 k n : Nat) (w : Option Rn), k + m2 = b.length → Fits a b w → rOut a b m (i + 1) (rIn a b i m2 k w) = rOut a b a.length 0 none → L2 (L14_1 (.sl o 1 (a.map .str)) (.sl o' 1 (b.map .str)) (.ptr 0 3 0 0) (.ptr 1 3 0 0) (.bool w.isSome) (.int .i64 i) (.int .i64 k) 0 [.int .i64 0, .int .i64 0, .int .i64 0] 1 [.int .i64 (bestR w).A, .int .i64 (bestR w).B, .int .i64 (bestR w).N] [] n) := by
        intro m2
        induction m2 with
        | zero =>
          intro k n w hk hw he
          apply hL2
          simp only [L14_1, l14_1, ex,reduceIte,reduceCtorEq,Nat.reduceEqDiff,Nat.reduceLT,Nat.reduceLeDiff,Nat.reduceAdd,Nat.reduceSub,Nat.reduceMul,Int.reduceAdd,Int.reduceSub,Int.reduceMul,Int.reduceNeg,Int.reduceLE,Int.reduceLT,Int.reduceEq,Int.reduceToNat]
          have h2 : decide ((k : Int) < (b.length : Int)) = false := by simp; omega
          (try simp only [h2, ex,reduceIte,reduceCtorEq,Nat.reduceEqDiff,Nat.reduceLT,Nat.reduceLeDiff,Nat.reduceAdd,Nat.reduceSub,Nat.reduceMul,Int.reduceAdd,Int.reduceSub,Int.reduceMul,Int.reduceNeg,Int.reduceLE,Int.reduceLT,Int.reduceEq,Int.reduceToNat]) <;> repeat ((with_reducible refine Req.intro ?_ ?_); (first | omega | (simp <;> omega)); try simp only [h2, ex,reduceIte,reduceCtorEq,Nat.reduceEqDiff,Nat.reduceLT,Nat.reduceLeDiff,Nat.reduceAdd,Nat.reduceSub,Nat.reduceMul,Int.reduceAdd,Int.reduceSub,Int.reduceMul,Int.reduceNeg,Int.reduceLE,Int.reduceLT,Int.reduceEq,Int.reduceToNat])
          exact ih (i + 1) n w (by omega) hw he
        | succ m2 ih2 =>
          intro k n w hk hw he
          apply hL2
          simp only [L14_1, l14_1, ex,reduceIte,reduceCtorEq,Nat.reduceEqDiff,Nat.reduceLT,Nat.reduceLeDiff,Nat.reduceAdd,Nat.reduceSub,Nat.reduceMul,Int.reduceAdd,Int.reduceSub,Int.reduceMul,Int.reduceNeg,Int.reduceLE,Int.reduceLT,Int.reduceEq,Int.reduceToNat]
          have h2 : decide ((k : Int) < (b.length : Int)) = true := by simp; omega
          have g1 : a[i]? = some (a[i]'(by omega)) := List.getElem?_eq_getElem _
          have g2 : b[k]? = some (b[k]'(by omega)) := List.getElem?_eq_getElem _
          simp only [rIn] at he
          have hw' := rstep_fits (i := i) (k := k) (by omega) (by omega) hw
          rcases Classical.em (a[i]'(by omega) = b[k]'(by omega)) with c | c
          · have g3 : decide (a[i]'(by omega) = b[k]'(by omega)) = true := by simpa using c
            have hst : rstep a b i k w = if rtake a (runOf a b i k) w = true then some (runOf a b i k) else w := by
              unfold rstep; rw [if_pos (by rw [g1, g2, c])]
            have hf := runOf_fits a b i k (by omega) (by omega)
            (try simp only [h2, g1, g2, g3, ex,reduceIte,reduceCtorEq,Nat.reduceEqDiff,Nat.reduceLT,Nat.reduceLeDiff,Nat.reduceAdd,Nat.reduceSub,Nat.reduceMul,Int.reduceAdd,Int.reduceSub,Int.reduceMul,Int.reduceNeg,Int.reduceLE,Int.reduceLT,Int.reduceEq,Int.reduceToNat]) <;> repeat ((with_reducible refine Req.intro ?_ ?_); (first | omega | (simp <;> omega)); try simp only [h2, g1, g2, g3, ex,reduceIte,reduceCtorEq,Nat.reduceEqDiff,Nat.reduceLT,Nat.reduceLeDiff,Nat.reduceAdd,Nat.reduceSub,Nat.reduceMul,Int.reduceAdd,Int.reduceSub,Int.reduceMul,Int.reduceNeg,Int.reduceLE,Int.reduceLT,Int.reduceEq,Int.reduceToNat])
            refine CallA.eq rfl (run_spec _ _ a b i k (by omega) (by omega) ha hb) rfl ?_
            (try simp only [ex,reduceIte,reduceCtorEq,Nat.reduceEqDiff,Nat.reduceLT,Nat.reduceLeDiff,Nat.reduceAdd,Nat.reduceSub,Nat.reduceMul,Int.reduceAdd,Int.reduceSub,Int.reduceMul,Int.reduceNeg,Int.reduceLE,Int.reduceLT,Int.reduceEq,Int.reduceToNat]) <;> repeat ((with_reducible refine Req.intro ?_ ?_); (first | omega | (simp <;> omega)); try simp only [ex,reduceIte,reduceCtorEq,Nat.reduceEqDiff,Nat.reduceLT,Nat.reduceLeDiff,Nat.reduceAdd,Nat.reduceSub,Nat.reduceMul,Int.reduceAdd,Int.reduceSub,Int.reduceMul,Int.reduceNeg,Int.reduceLE,Int.reduceLT,Int.reduceEq,Int.reduceToNat])
            refine CallA.eq rfl (rare_spec _ a _ hf.1 ha) rfl ?_
            rcases Classical.em (rare a.length a (runOf a b i k) ≤ 64) with c1 | c1
            · have h3 : decide (((rare a.length a (runOf a b i k) : Nat) : Int) ≤ 64) = true := by simp; omega
              cases w with
              | none =>
                (try simp only [h3, Option.isSome_none, ex,reduceIte,reduceCtorEq,Nat.reduceEqDiff,Nat.reduceLT,Nat.reduceLeDiff,Nat.reduceAdd,Nat.reduceSub,Nat.reduceMul,Int.reduceAdd,Int.reduceSub,Int.reduceMul,Int.reduceNeg,Int.reduceLE,Int.reduceLT,Int.reduceEq,Int.reduceToNat]) <;> repeat ((with_reducible refine Req.intro ?_ ?_); (first | omega | (simp <;> omega)); try simp only [h3, Option.isSome_none, ex,reduceIte,reduceCtorEq,Nat.reduceEqDiff,Nat.reduceLT,Nat.reduceLeDiff,Nat.reduceAdd,Nat.reduceSub,Nat.reduceMul,Int.reduceAdd,Int.reduceSub,Int.reduceMul,Int.reduceNeg,Int.reduceLE,Int.reduceLT,Int.reduceEq,Int.reduceToNat])
                have : rtake a (runOf a b i k) none = true := by simp [rtake, c1]
                rw [if_pos this] at hst
                rw [hst] at he hw'
                exact ih2 (k + 1) (n + 1) _ (by omega) hw' he
              | some r =>
                (try simp only [h3, Option.isSome_some, ex,reduceIte,reduceCtorEq,Nat.reduceEqDiff,Nat.reduceLT,Nat.reduceLeDiff,Nat.reduceAdd,Nat.reduceSub,Nat.reduceMul,Int.reduceAdd,Int.reduceSub,Int.reduceMul,Int.reduceNeg,Int.reduceLE,Int.reduceLT,Int.reduceEq,Int.reduceToNat]) <;> repeat ((with_reducible refine Req.intro ?_ ?_); (first | omega | (simp <;> omega)); try simp only [h3, Option.isSome_some, ex,reduceIte,reduceCtorEq,Nat.reduceEqDiff,Nat.reduceLT,Nat.reduceLeDiff,Nat.reduceAdd,Nat.reduceSub,Nat.reduceMul,Int.reduceAdd,Int.reduceSub,Int.reduceMul,Int.reduceNeg,Int.reduceLE,Int.reduceLT,Int.reduceEq,Int.reduceToNat])
                refine CallA.eq rfl (better_spec _ a (runOf a b i k) r hf.1 (hw r rfl).1 ha) rfl ?_
                have ht : rtake a (runOf a b i k) (some r) = bet a.length a (runOf a b i k) r := by simp [rtake, c1]
                rw [ht] at hst
                (try simp only [h3, ex,reduceIte,reduceCtorEq,Nat.reduceEqDiff,Nat.reduceLT,Nat.reduceLeDiff,Nat.reduceAdd,Nat.reduceSub,Nat.reduceMul,Int.reduceAdd,Int.reduceSub,Int.reduceMul,Int.reduceNeg,Int.reduceLE,Int.reduceLT,Int.reduceEq,Int.reduceToNat]) <;> repeat ((with_reducible refine Req.intro ?_ ?_); (first | omega | (simp <;> omega)); try simp only [h3, ex,reduceIte,reduceCtorEq,Nat.reduceEqDiff,Nat.reduceLT,Nat.reduceLeDiff,Nat.reduceAdd,Nat.reduceSub,Nat.reduceMul,Int.reduceAdd,Int.reduceSub,Int.reduceMul,Int.reduceNeg,Int.reduceLE,Int.reduceLT,Int.reduceEq,Int.reduceToNat])
                refine ifB.intro (fun h => ?_) (fun h => ?_)
                · (try simp only [ex,reduceIte,reduceCtorEq,Nat.reduceEqDiff,Nat.reduceLT,Nat.reduceLeDiff,Nat.reduceAdd,Nat.reduceSub,Nat.reduceMul,Int.reduceAdd,Int.reduceSub,Int.reduceMul,Int.reduceNeg,Int.reduceLE,Int.reduceLT,Int.reduceEq,Int.reduceToNat]) <;> repeat ((with_reducible refine Req.intro ?_ ?_); (first | omega | (simp <;> omega)); try simp only [ex,reduceIte,reduceCtorEq,Nat.reduceEqDiff,Nat.reduceLT,Nat.reduceLeDiff,Nat.reduceAdd,Nat.reduceSub,Nat.reduceMul,Int.reduceAdd,Int.reduceSub,Int.reduceMul,Int.reduceNeg,Int.reduceLE,Int.reduceLT,Int.reduceEq,Int.reduceToNat])
                  rw [if_pos h] at hst
                  rw [hst] at he hw'
                  exact ih2 (k + 1) (n + 1) _ (by omega) hw' he
                · (try simp only [ex,reduceIte,reduceCtorEq,Nat.reduceEqDiff,Nat.reduceLT,Nat.reduceLeDiff,Nat.reduceAdd,Nat.reduceSub,Nat.reduceMul,Int.reduceAdd,Int.reduceSub,Int.reduceMul,Int.reduceNeg,Int.reduceLE,Int.reduceLT,Int.reduceEq,Int.reduceToNat]) <;> repeat ((with_reducible refine Req.intro ?_ ?_); (first | omega | (simp <;> omega)); try simp only [ex,reduceIte,reduceCtorEq,Nat.reduceEqDiff,Nat.reduceLT,Nat.reduceLeDiff,Nat.reduceAdd,Nat.reduceSub,Nat.reduceMul,Int.reduceAdd,Int.reduceSub,Int.reduceMul,Int.reduceNeg,Int.reduceLE,Int.reduceLT,Int.reduceEq,Int.reduceToNat])
                  rw [if_neg (by rw [h]; decide)] at hst
                  rw [hst] at he hw'
                  exact ih2 (k + 1) (n + 1) _ (by omega) hw' he
            · have h3 : decide (((rare a.length a (runOf a b i k) : Nat) : Int) ≤ 64) = false := by simp; omega
              have : rtake a (runOf a b i k) w = false := by simp [rtake, c1]
              rw [if_neg (by rw [this]; decide)] at hst
              rw [hst] at he hw'
              (try simp only [h3, ex,reduceIte,reduceCtorEq,Nat.reduceEqDiff,Nat.reduceLT,Nat.reduceLeDiff,Nat.reduceAdd,Nat.reduceSub,Nat.reduceMul,Int.reduceAdd,Int.reduceSub,Int.reduceMul,Int.reduceNeg,Int.reduceLE,Int.reduceLT,Int.reduceEq,Int.reduceToNat]) <;> repeat ((with_reducible refine Req.intro ?_ ?_); (first | omega | (simp <;> omega)); try simp only [h3, ex,reduceIte,reduceCtorEq,Nat.reduceEqDiff,Nat.reduceLT,Nat.reduceLeDiff,Nat.reduceAdd,Nat.reduceSub,Nat.reduceMul,Int.reduceAdd,Int.reduceSub,Int.reduceMul,Int.reduceNeg,Int.reduceLE,Int.reduceLT,Int.reduceEq,Int.reduceToNat])
              exact ih2 (k + 1) (n + 1) _ (by omega) hw' he
          · have g3 : decide (a[i]'(by omega) = b[k]'(by omega)) = false := by simpa using c
            have hst : rstep a b i k w = w := by
              unfold rstep; rw [if_neg (by rw [g1, g2]; simpa using c)]
            rw [hst] at he hw'
            (try simp only [h2, g1, g2, g3, ex,reduceIte,reduceCtorEq,Nat.reduceEqDiff,Nat.reduceLT,Nat.reduceLeDiff,Nat.reduceAdd,Nat.reduceSub,Nat.reduceMul,Int.reduceAdd,Int.reduceSub,Int.reduceMul,Int.reduceNeg,Int.reduceLE,Int.reduceLT,Int.reduceEq,Int.reduceToNat]) <;> repeat ((with_reducible refine Req.intro ?_ ?_); (first | omega | (simp <;> omega)); try simp only [h2, g1, g2, g3, ex,reduceIte,reduceCtorEq,Nat.reduceEqDiff,Nat.reduceLT,Nat.reduceLeDiff,Nat.reduceAdd,Nat.reduceSub,Nat.reduceMul,Int.reduceAdd,Int.reduceSub,Int.reduceMul,Int.reduceNeg,Int.reduceLE,Int.reduceLT,Int.reduceEq,Int.reduceToNat])
            exact ih2 (k + 1) n w (by omega) hw he
      exact key2 b.length 0 n w (Nat.zero_add _) hw he
  exact key a.length 0 2 none (Nat.zero_add _) (fun r h => by cases h) rfl
end Go.Proofs.Ytmmcepbcjlopdaa.E.Hs

/- The anchor, of both: it is the one that no other run beats. Plain lists. Conditions: none. -/
namespace Go.Proofs.Ytmmcepbcjlopdaa.E.Hs
set_option linter.unusedVariables false

theorem bet_iff (m : Nat) (a : List S) (x y : Rn) : bet m a x y = true ↔ rare m a x < rare m a y ∨ (rare m a x = rare m a y ∧ (y.N < x.N ∨ (x.N = y.N ∧ (x.A < y.A ∨ (x.A = y.A ∧ x.B < y.B))))) := by
  unfold bet
  generalize rare m a x = p
  generalize rare m a y = q
  by_cases h1 : p = q
  · rw [if_neg (by simpa using h1)]
    by_cases h2 : x.N = y.N
    · rw [if_neg (by simpa using h2)]
      by_cases h3 : x.A = y.A
      · rw [if_neg (by simpa using h3)]; simp; omega
      · rw [if_pos h3]; simp; omega
    · rw [if_pos h2]; simp; omega
  · rw [if_pos h1]; simp; omega
theorem Rn.eq {x y : Rn} (h1 : x.A = y.A) (h2 : x.B = y.B) (h3 : x.N = y.N) : x = y := by
  cases x; cases y; simp_all
theorem bet_total (m : Nat) (a : List S) (x y : Rn) (h : bet m a x y = false) : x = y ∨ bet m a y x = true := by
  by_cases c : x = y
  · exact .inl c
  · right
    rw [bet_iff]
    have h1 : ¬ bet m a x y = true := by rw [h]; simp
    rw [bet_iff] at h1
    have : ¬ (x.A = y.A ∧ x.B = y.B ∧ x.N = y.N) := fun e => c (Rn.eq e.1 e.2.1 e.2.2)
    omega
theorem bet_trans (m : Nat) (a : List S) (x y z : Rn) (h1 : bet m a x y = true) (h2 : bet m a y z = true) : bet m a x z = true := by
  rw [bet_iff] at *
  omega

theorem runOf_start {a b : List S} {i k : Nat} (h : ∃ s, a[i]? = some s ∧ b[k]? = some s) : Start a b (runOf a b i k).A (runOf a b i k).B ∧ (runOf a b i k).N = lcp (a.drop (runOf a b i k).A) (b.drop (runOf a b i k).B) ∧ 0 < (runOf a b i k).N :=
  ⟨back_start a b i k h, rfl, lcp_pos (back_start a b i k h).1⟩
theorem runOf_self {a b : List S} {r : Rn} (h1 : Start a b r.A r.B) (h2 : r.N = lcp (a.drop r.A) (b.drop r.B)) : runOf a b r.A r.B = r := by
  unfold runOf
  rw [back_of_start a b _ _ h1]
  exact Rn.eq rfl rfl h2.symm
theorem cand_fits {a b : List S} {r : Rn} (h : Cand a b r) : 0 < r.N ∧ r.A + r.N ≤ a.length ∧ r.B + r.N ≤ b.length := by
  obtain ⟨h1, h2, _⟩ := h
  have h3 := lcp_pos h1.1
  have h4 := lcp_le (a.drop r.A) (b.drop r.B)
  simp only [List.length_drop] at h4
  omega
theorem rare_cand {a b : List S} {r : Rn} (h : Cand a b r) : rare a.length a r = rare 65 a r := by
  obtain ⟨f1, f2, _⟩ := cand_fits h
  have := rare_len a r f1 f2
  have := h.2.2
  omega
theorem bet_cand {a b : List S} {x y : Rn} (hx : Cand a b x) (hy : Cand a b y) : bet a.length a x y = bet 65 a x y := by
  unfold bet; rw [rare_cand hx, rare_cand hy]

/-- What was seen so far: the pairs before (i, k). -/
def Seen (i k i' k' : Nat) : Prop := i' < i ∨ (i' = i ∧ k' < k)
structure RInv (a b : List S) (i k : Nat) (o : Option Rn) : Prop where
  cand : ∀ r, o = some r → Cand a b r
  best : ∀ y, Cand a b y → Seen i k y.A y.B → ∃ r, o = some r ∧ (y = r ∨ bet 65 a r y = true)
theorem rstep_inv {a b : List S} {i k : Nat} {o : Option Rn} (hi : i < a.length) (hk : k < b.length) (h : RInv a b i k o) : RInv a b i (k + 1) (rstep a b i k o) := by
  by_cases hab : a[i]? = b[k]?
  · have hs : ∃ s, a[i]? = some s ∧ b[k]? = some s := ⟨a[i], List.getElem?_eq_getElem hi, by rw [← hab]; exact List.getElem?_eq_getElem hi⟩
    obtain ⟨x1, x2, x3⟩ := runOf_start hs
    have hf := runOf_fits a b i k hi hk
    have hr := rare_len a (runOf a b i k) x3 hf.1
    have hnew : ∀ y, Cand a b y → y.A = i → y.B = k → y = runOf a b i k := fun y hy e1 e2 => by
      rw [← e1, ← e2, runOf_self hy.1 hy.2.1]
    unfold rstep
    rw [if_pos hab]
    generalize hx : runOf a b i k = x at *
    by_cases c : rare a.length a x ≤ 64
    · have hc : Cand a b x := ⟨x1, x2, by omega⟩
      cases o with
      | none =>
        have : rtake a x none = true := by simp [rtake, c]
        rw [if_pos this]
        refine ⟨fun r e => (by injection e with e; subst e; exact hc), fun y hy hs => ⟨x, rfl, ?_⟩⟩
        rcases hs with hs | ⟨e1, hs⟩
        · obtain ⟨r, e, _⟩ := h.best y hy (.inl hs); cases e
        · by_cases e2 : y.B = k
          · exact .inl (hnew y hy e1 e2)
          · obtain ⟨r, e, _⟩ := h.best y hy (.inr ⟨e1, by omega⟩); cases e
      | some r =>
        have hr1 := h.cand r rfl
        have ht : rtake a x (some r) = bet 65 a x r := by simp [rtake, c, bet_cand hc hr1]
        rw [ht]
        by_cases hb : bet 65 a x r = true
        · rw [if_pos hb]
          refine ⟨fun r' e => (by injection e with e; subst e; exact hc), fun y hy hs => ⟨x, rfl, ?_⟩⟩
          have key : ∀ hs : Seen i k y.A y.B, y = x ∨ bet 65 a x y = true := fun hs => by
            obtain ⟨r', e, h'⟩ := h.best y hy hs
            injection e with e; subst e
            rcases h' with rfl | h'
            · exact .inr hb
            · exact .inr (bet_trans 65 a _ _ _ hb h')
          rcases hs with hs | ⟨e1, hs⟩
          · exact key (.inl hs)
          · by_cases e2 : y.B = k
            · exact .inl (hnew y hy e1 e2)
            · exact key (.inr ⟨e1, by omega⟩)
        · rw [if_neg hb]
          refine ⟨h.cand, fun y hy hs => ?_⟩
          rcases hs with hs | ⟨e1, hs⟩
          · exact h.best y hy (.inl hs)
          · by_cases e2 : y.B = k
            · refine ⟨r, rfl, ?_⟩
              rw [hnew y hy e1 e2]
              exact bet_total 65 a x r (by simpa using hb)
            · exact h.best y hy (.inr ⟨e1, by omega⟩)
    · have ht : rtake a x o = false := by simp [rtake, c]
      rw [ht, if_neg (by simp)]
      refine ⟨h.cand, fun y hy hs => ?_⟩
      rcases hs with hs | ⟨e1, hs⟩
      · exact h.best y hy (.inl hs)
      · by_cases e2 : y.B = k
        · have := hnew y hy e1 e2
          subst this
          have := hy.2.2
          omega
        · exact h.best y hy (.inr ⟨e1, by omega⟩)
  · unfold rstep
    rw [if_neg hab]
    refine ⟨h.cand, fun y hy hs => ?_⟩
    rcases hs with hs | ⟨e1, hs⟩
    · exact h.best y hy (.inl hs)
    · by_cases e2 : y.B = k
      · obtain ⟨s, s1, s2⟩ := hy.1.1
        rw [e1] at s1; rw [e2] at s2
        exact absurd (by rw [s1, s2]) hab
      · exact h.best y hy (.inr ⟨e1, by omega⟩)
theorem rIn_inv {a b : List S} {i : Nat} (hi : i < a.length) : ∀ (m k : Nat) (o : Option Rn), k + m = b.length → RInv a b i k o → RInv a b i b.length (rIn a b i m k o)
  | 0, k, o, hk, h => by have : k = b.length := by omega
                         subst this; exact h
  | m + 1, k, o, hk, h => rIn_inv hi m (k + 1) _ (by omega) (rstep_inv hi (by omega) h)
theorem rOut_inv {a b : List S} : ∀ (m i : Nat) (o : Option Rn), i + m = a.length → RInv a b i 0 o → RInv a b a.length 0 (rOut a b m i o)
  | 0, i, o, hi, h => by have : i = a.length := by omega
                         subst this; exact h
  | m + 1, i, o, hi, h => by
    have h2 := rIn_inv (i := i) (by omega) b.length 0 o (Nat.zero_add _) h
    refine rOut_inv m (i + 1) _ (by omega) ⟨h2.cand, fun y hy hs => h2.best y hy ?_⟩
    have := cand_fits hy
    rcases hs with hs | ⟨_, hs⟩
    · rcases Nat.lt_or_ge y.A i with c | c
      · exact .inl c
      · exact .inr ⟨by omega, by omega⟩
    · omega
theorem ranchor_is (a b : List S) : IsAnchor a b (rOut a b a.length 0 none) := by
  have h := rOut_inv (b := b) a.length 0 none (Nat.zero_add _) ⟨fun r e => (by cases e), fun y hy hs => (by
    rcases hs with hs | ⟨_, hs⟩ <;> omega)⟩
  have hseen : ∀ y, Cand a b y → Seen a.length 0 y.A y.B := fun y hy => by
    have := cand_fits hy
    exact .inl (by omega)
  unfold IsAnchor
  cases ho : rOut a b a.length 0 none with
  | none =>
    intro y hy
    rw [ho] at h
    obtain ⟨r, e, _⟩ := h.best y hy (hseen y hy)
    cases e
  | some r =>
    rw [ho] at h
    refine ⟨h.cand r rfl, fun y hy => ?_⟩
    obtain ⟨r', e, h'⟩ := h.best y hy (hseen y hy)
    injection e with e; subst e
    exact h'

/-! ### The program's way -/
structure PSt where
  best : Rn
  rr : Nat
  found : Bool
def skips (a b : List S) (i j : Nat) : Bool := decide (0 < i) && decide (0 < j) && decide (a[i - 1]? = b[j - 1]?)
def pnew (a b : List S) (i j : Nat) : Rn := ⟨i, j, lcp (a.drop i) (b.drop j)⟩
def ptake (a b : List S) (i j : Nat) (s : PSt) : Bool := decide (rare 65 a (pnew a b i j) < s.rr) || (s.found && decide (rare 65 a (pnew a b i j) = s.rr) && decide (s.best.N < (pnew a b i j).N))
def pstep (a b : List S) (i j : Nat) (s : PSt) : PSt := if skips a b i j = true then s else if ptake a b i j s = true then ⟨pnew a b i j, rare 65 a (pnew a b i j), true⟩ else s
def pls (b : List S) (s : S) (k m : Nat) : List Nat := (List.range' k m).filter fun j => decide (b[j]? = some s)
def pIn (a b : List S) (i : Nat) : List Nat → PSt → PSt
  | [], s => s
  | j :: l, s => pIn a b i l (pstep a b i j s)
def pOut (a b : List S) : Nat → Nat → PSt → PSt
  | 0, _, s => s
  | m + 1, i, s => pOut a b m (i + 1) (pIn a b i (pls b ((a[i]?).getD []) 0 b.length) s)

structure PInv (a b : List S) (i k : Nat) (s : PSt) : Prop where
  no : s.found = false → s.rr = 65 ∧ s.best = ⟨0, 0, 0⟩
  yes : s.found = true → Cand a b s.best ∧ s.rr = rare 65 a s.best ∧ Seen i k s.best.A s.best.B
  best : ∀ y, Cand a b y → Seen i k y.A y.B → s.found = true ∧ (y = s.best ∨ bet 65 a s.best y = true)
theorem PInv.next {a b : List S} {i k : Nat} {s : PSt} (h : PInv a b i k s) (hno : ∀ y, Cand a b y → y.A = i → y.B = k → s.found = true ∧ (y = s.best ∨ bet 65 a s.best y = true)) : PInv a b i (k + 1) s := by
  refine ⟨h.no, fun hf => ?_, fun y hy hs => ?_⟩
  · obtain ⟨h1, h2, h3⟩ := h.yes hf
    refine ⟨h1, h2, ?_⟩
    rcases h3 with h3 | ⟨e, h3⟩
    · exact .inl h3
    · exact .inr ⟨e, by omega⟩
  · rcases hs with hs | ⟨e1, hs⟩
    · exact h.best y hy (.inl hs)
    · by_cases e2 : y.B = k
      · exact hno y hy e1 e2
      · exact h.best y hy (.inr ⟨e1, by omega⟩)
theorem pstep_inv {a b : List S} {i k : Nat} {s : PSt} (he : ∃ x, a[i]? = some x ∧ b[k]? = some x) (h : PInv a b i k s) : PInv a b i (k + 1) (pstep a b i k s) := by
  have hnew : ∀ y, Cand a b y → y.A = i → y.B = k → y = pnew a b i k := fun y hy e1 e2 => Rn.eq e1 e2 (by rw [hy.2.1, e1, e2]; rfl)
  unfold pstep
  by_cases hsk : skips a b i k = true
  · rw [if_pos hsk]
    refine h.next fun y hy e1 e2 => ?_
    have := hy.1.2
    rw [e1, e2] at this
    simp only [skips, Bool.and_eq_true, decide_eq_true_iff] at hsk
    exact (this ⟨hsk.1.1, hsk.1.2, hsk.2⟩).elim
  · rw [if_neg hsk]
    have hst : Start a b i k := by
      refine ⟨he, fun hh => hsk ?_⟩
      simp only [skips, Bool.and_eq_true, decide_eq_true_iff]
      exact ⟨⟨hh.1, hh.2.1⟩, hh.2.2⟩
    generalize hx : pnew a b i k = x at *
    have hxA : x.A = i := by rw [← hx]; rfl
    have hxB : x.B = k := by rw [← hx]; rfl
    have hxN : x.N = lcp (a.drop i) (b.drop k) := by rw [← hx]; rfl
    have hpt : ptake a b i k s = (decide (rare 65 a x < s.rr) || (s.found && decide (rare 65 a x = s.rr) && decide (s.best.N < x.N))) := by unfold ptake; rw [hx]
    rw [hpt]
    have hrle := rare_le 65 a x
    by_cases c : (decide (rare 65 a x < s.rr) || (s.found && decide (rare 65 a x = s.rr) && decide (s.best.N < x.N))) = true
    · rw [if_pos c]
      simp only [Bool.or_eq_true, Bool.and_eq_true, decide_eq_true_iff] at c
      have hlt : rare 65 a x ≤ 64 := by
        cases hf : s.found with
        | false => have := (h.no hf).1; rcases c with c | ⟨⟨c, _⟩, _⟩
                   · omega
                   · rw [hf] at c; cases c
        | true => obtain ⟨y1, y2, _⟩ := h.yes hf; have := y1.2.2; rcases c with c | ⟨⟨_, c⟩, _⟩ <;> omega
      have hc : Cand a b x := ⟨by rw [hxA, hxB]; exact hst, by rw [hxA, hxB]; exact hxN, hlt⟩
      refine ⟨fun hf => (by simp at hf), fun _ => ⟨hc, rfl, .inr ⟨hxA, by simp only; omega⟩⟩, fun y hy hs => ⟨rfl, ?_⟩⟩
      have key : ∀ hs : Seen i k y.A y.B, y = x ∨ bet 65 a x y = true := fun hs => by
        obtain ⟨hf, h'⟩ := h.best y hy hs
        obtain ⟨y1, y2, y3⟩ := h.yes hf
        have hb : bet 65 a x s.best = true := by
          rw [bet_iff]
          rcases c with c | ⟨⟨_, c⟩, c2⟩
          · exact .inl (by omega)
          · exact .inr ⟨by omega, .inl c2⟩
        rcases h' with rfl | h'
        · exact .inr hb
        · exact .inr (bet_trans 65 a _ _ _ hb h')
      rcases hs with hs | ⟨e1, hs⟩
      · exact key (.inl hs)
      · by_cases e2 : y.B = k
        · exact .inl (hnew y hy e1 e2)
        · exact key (.inr ⟨e1, by omega⟩)
    · rw [if_neg c]
      simp only [Bool.or_eq_true, Bool.and_eq_true, decide_eq_true_iff, not_or, not_and] at c
      refine h.next fun y hy e1 e2 => ?_
      have := hnew y hy e1 e2
      subst this
      have hy2 := hy.2.2
      cases hf : s.found with
      | false => have := (h.no hf).1; omega
      | true =>
        obtain ⟨y1, y2, y3⟩ := h.yes hf
        refine ⟨rfl, .inr ?_⟩
        rw [bet_iff]
        have c2 : rare 65 a y = s.rr → ¬ s.best.N < y.N := fun e => c.2 ⟨hf, e⟩
        have hseen : s.best.A < y.A ∨ (s.best.A = y.A ∧ s.best.B < y.B) := by
          rcases y3 with y3 | ⟨y3, y4⟩ <;> omega
        by_cases e : rare 65 a y = s.rr
        · have := c2 e
          omega
        · omega
theorem pIn_inv {a b : List S} {i : Nat} {x : S} (hi : a[i]? = some x) : ∀ (m k : Nat) (s : PSt), k + m = b.length → PInv a b i k s → PInv a b i b.length (pIn a b i (pls b x k m) s)
  | 0, k, s, hk, h => by
    have : k = b.length := by omega
    subst this
    simpa [pls, pIn] using h
  | m + 1, k, s, hk, h => by
    unfold pls
    rw [List.range'_succ, List.filter_cons]
    by_cases c : b[k]? = some x
    · rw [if_pos (by simpa using c)]
      exact pIn_inv hi m (k + 1) _ (by omega) (pstep_inv ⟨x, hi, c⟩ h)
    · rw [if_neg (by simpa using c)]
      refine pIn_inv hi m (k + 1) _ (by omega) (h.next fun y hy e1 e2 => ?_)
      obtain ⟨s', s1, s2⟩ := hy.1.1
      rw [e1, hi] at s1; rw [e2] at s2
      injection s1 with s1; subst s1
      exact absurd s2 c
theorem pOut_inv {a b : List S} : ∀ (m i : Nat) (s : PSt), i + m = a.length → PInv a b i 0 s → PInv a b a.length 0 (pOut a b m i s)
  | 0, i, s, hi, h => by have : i = a.length := by omega
                         subst this; exact h
  | m + 1, i, s, hi, h => by
    have hx : a[i]? = some (a[i]'(by omega)) := List.getElem?_eq_getElem _
    have h2 := pIn_inv hx b.length 0 s (Nat.zero_add _) h
    simp only [pOut, hx, Option.getD_some]
    refine pOut_inv m (i + 1) _ (by omega) ⟨h2.no, fun hf => ?_, fun y hy hs => h2.best y hy ?_⟩
    · obtain ⟨h3, h4, h5⟩ := h2.yes hf
      refine ⟨h3, h4, .inl ?_⟩
      rcases h5 with h5 | h5 <;> omega
    · have := cand_fits hy
      rcases hs with hs | ⟨_, hs⟩
      · rcases Nat.lt_or_ge y.A i with c | c
        · exact .inl c
        · exact .inr ⟨by omega, by omega⟩
      · omega
def pRes (a b : List S) : PSt := pOut a b a.length 0 ⟨⟨0, 0, 0⟩, 65, false⟩
theorem panchor_is (a b : List S) : IsAnchor a b (if (pRes a b).found = true then some (pRes a b).best else none) ∧ ((pRes a b).found = false → (pRes a b).best = ⟨0, 0, 0⟩) := by
  have h := pOut_inv (b := b) a.length 0 ⟨⟨0, 0, 0⟩, 65, false⟩ (Nat.zero_add _) ⟨fun _ => ⟨rfl, rfl⟩, fun hf => (by simp at hf), fun y hy hs => (by
    rcases hs with hs | ⟨_, hs⟩ <;> omega)⟩
  have hseen : ∀ y, Cand a b y → Seen a.length 0 y.A y.B := fun y hy => by
    have := cand_fits hy
    exact .inl (by omega)
  change PInv a b a.length 0 (pRes a b) at h
  refine ⟨?_, fun hf => (h.no hf).2⟩
  unfold IsAnchor
  cases hf : (pRes a b).found with
  | true =>
    rw [if_pos rfl]
    exact ⟨(h.yes hf).1, fun y hy => (h.best y hy (hseen y hy)).2⟩
  | false =>
    rw [if_neg (by simp)]
    intro y hy
    have := (h.best y hy (hseen y hy)).1
    rw [hf] at this; cases this
/-- Both find the same. -/
theorem anchors_same (a b : List S) : (pRes a b).best = bestR (rOut a b a.length 0 none) ∧ (pRes a b).found = (rOut a b a.length 0 none).isSome := by
  have h1 := panchor_is a b
  have h2 := IsAnchor.uniq h1.1 (ranchor_is a b)
  rw [← h2]
  cases hf : (pRes a b).found with
  | true => exact ⟨rfl, rfl⟩
  | false => exact ⟨h1.2 hf, rfl⟩
end Go.Proofs.Ytmmcepbcjlopdaa.E.Hs

/- The program's anchor: what it computes. Conditions: none. -/
namespace Go.Proofs.Ytmmcepbcjlopdaa.E.Hs
set_option linter.unusedVariables false
set_option linter.unusedSimpArgs false
set_option maxHeartbeats 20000000

def cv (m : Nat) : Option V := if m = 0 then none else some (.int .i64 m)
theorem cv_getD (m : Nat) : (cv m).getD (.int .i64 0) = .int .i64 m := by
  unfold cv; split
  · rename_i h; subst h; rfl
  · rfl
theorem cv_succ (m : Nat) : cv (m + 1) = some (.int .i64 ((m : Int) + 1)) := by unfold cv; rw [if_neg (by omega)]; rfl
/-- The map of counts. -/
def CntM (a : List S) (i : Nat) (m : MS) : Prop := ∀ s, gt m s = cv ((a.take i).count s)
def plsV (l : List Nat) : List V := l.map fun (j : Nat) => V.int .i64 (j : Int)
def pv (l : List Nat) : Option V := if l = [] then none else some (.sl true 1 (plsV l))
/-- The map of places. -/
def PlM (b : List S) (k : Nat) (m : MS) : Prop := ∀ s, gt m s = pv (pls b s 0 k)
theorem pls_succ (b : List S) (s : S) (k : Nat) : pls b s 0 (k + 1) = pls b s 0 k ++ (if b[k]? = some s then [k] else []) := by
  unfold pls
  rw [List.range'_concat, List.filter_append]
  congr 1
  simp only [Nat.one_mul, Nat.zero_add, List.filter_cons, List.filter_nil, decide_eq_true_eq]
theorem pls_lt (b : List S) (s : S) (k : Nat) (j : Nat) (h : j ∈ pls b s 0 k) : j < k ∧ b[j]? = some s := by
  unfold pls at h
  rw [List.mem_filter, List.mem_range'] at h
  obtain ⟨⟨i, hi, rfl⟩, h2⟩ := h
  exact ⟨by omega, by simpa using h2⟩
theorem pls_len (b : List S) (s : S) (k : Nat) : (pls b s 0 k).length ≤ k := by
  unfold pls
  exact Nat.le_trans (List.length_filter_le _ _) (by simp)

theorem pv_getD (l : List Nat) : clr2 ((pv l).getD (.sl true 1 [])) = .sl false 1 (plsV l) := by
  unfold pv; split
  · rename_i h; subst h; rfl
  · rfl
theorem anchor_loop2 (b : List S) (k : Nat) (x : S) (m : MS) (hx : b[k]? = some x) (h : PlM b k m) (m' : MS) (hm' : ∀ s, s ≠ x → gt m' s = gt m s) : PlM b (k + 1) (ins m' x (.sl true 1 (plsV (pls b x 0 k) ++ [.int .i64 k]))) := by
  intro s
  rw [gt_ins, pls_succ, hx]
  rcases Classical.em (s = x) with e | e
  · subst e
    rw [if_pos rfl, if_pos rfl, pv, if_neg (by simp)]
    simp [plsV]
  · rw [if_neg e, if_neg (by intro e'; injection e' with e'; exact e e'.symm), List.append_nil, hm' s e, h s]
theorem rare_pre (a : List S) (i j n : Nat) (L : Nat) : rare L a ⟨i, j, n⟩ = ((a.drop i).take n).foldl (fun m s => min m (a.count s)) L := rfl
theorem anchor_loop1 (a : List S) (i : Nat) (x : S) (m : MS) (hx : a[i]? = some x) (h : CntM a i m) : CntM a (i + 1) (ins m x (.int .i64 (((a.take i).count x : Nat) + 1))) := by
  intro s
  rw [gt_ins, List.take_add_one, hx]
  simp only [Option.toList_some, List.count_append]
  rcases Classical.em (s = x) with e | e
  · subst e
    rw [if_pos rfl, List.count_singleton_self, cv_succ]
  · rw [if_neg e, h s, List.count_singleton, if_neg (by simpa using fun e' => e e'.symm)]
    rfl

theorem anchor_spec (o o' : Bool) (a b : List S) (ha : a.length ≤ 1000000) (hb : b.length ≤ 1000000) :
    Run tab 13 0 [.sl o 1 (a.map .str), .sl o' 1 (b.map .str)] [] 0 (fun r _ _ => r = .tup [(.agg [.int .i64 ((pRes a b).best).A, .int .i64 ((pRes a b).best).B, .int .i64 ((pRes a b).best).N]), .bool (pRes a b).found]) := by
  refine enter (F := f13) rfl rfl ?_
  simp only [f13, ex,reduceIte,reduceCtorEq,Nat.reduceEqDiff,Nat.reduceLT,Nat.reduceLeDiff,Nat.reduceAdd,Nat.reduceSub,Nat.reduceMul,Int.reduceAdd,Int.reduceSub,Int.reduceMul,Int.reduceNeg,Int.reduceLE,Int.reduceLT,Int.reduceEq,Int.reduceToNat]
  (try simp only [ex,reduceIte,reduceCtorEq,Nat.reduceEqDiff,Nat.reduceLT,Nat.reduceLeDiff,Nat.reduceAdd,Nat.reduceSub,Nat.reduceMul,Int.reduceAdd,Int.reduceSub,Int.reduceMul,Int.reduceNeg,Int.reduceLE,Int.reduceLT,Int.reduceEq,Int.reduceToNat]) <;> repeat ((with_reducible refine Req.intro ?_ ?_); (first | omega | (simp <;> omega)); try simp only [ex,reduceIte,reduceCtorEq,Nat.reduceEqDiff,Nat.reduceLT,Nat.reduceLeDiff,Nat.reduceAdd,Nat.reduceSub,Nat.reduceMul,Int.reduceAdd,Int.reduceSub,Int.reduceMul,Int.reduceNeg,Int.reduceLE,Int.reduceLT,Int.reduceEq,Int.reduceToNat])
  refine loopI fun L1 hL1 => ?_
  (try simp only [ex,reduceIte,reduceCtorEq,Nat.reduceEqDiff,Nat.reduceLT,Nat.reduceLeDiff,Nat.reduceAdd,Nat.reduceSub,Nat.reduceMul,Int.reduceAdd,Int.reduceSub,Int.reduceMul,Int.reduceNeg,Int.reduceLE,Int.reduceLT,Int.reduceEq,Int.reduceToNat]) <;> repeat ((with_reducible refine Req.intro ?_ ?_); (first | omega | (simp <;> omega)); try simp only [ex,reduceIte,reduceCtorEq,Nat.reduceEqDiff,Nat.reduceLT,Nat.reduceLeDiff,Nat.reduceAdd,Nat.reduceSub,Nat.reduceMul,Int.reduceAdd,Int.reduceSub,Int.reduceMul,Int.reduceNeg,Int.reduceLE,Int.reduceLT,Int.reduceEq,Int.reduceToNat])
  have key1 : ∀ (m i : Nat) (cm : MS), i + m = a.length → CntM a i cm → L1 (L13_1 (.sl o 1 (a.map .str)) (.sl o' 1 (b.map .str)) (.ptr 0 3 0 0) (.hm 1) (.sl false 1 (a.map .str)) (.int .i64 a.length) (.int .i64 i) 0 [.int .i64 0, .int .i64 0, .int .i64 0] [(1, .map (emb cm))] 2) := by
    intro m
    induction m with
    | succ m ih =>
      intro i cm hi hm
      apply hL1
      simp only [L13_1, l13_1, ex,reduceIte,reduceCtorEq,Nat.reduceEqDiff,Nat.reduceLT,Nat.reduceLeDiff,Nat.reduceAdd,Nat.reduceSub,Nat.reduceMul,Int.reduceAdd,Int.reduceSub,Int.reduceMul,Int.reduceNeg,Int.reduceLE,Int.reduceLT,Int.reduceEq,Int.reduceToNat]
      have h1 : decide ((i : Int) < (a.length : Int)) = true := by simp; omega
      have g1 : a[i]? = some (a[i]'(by omega)) := List.getElem?_eq_getElem _
      generalize hx : a[i]'(by omega) = x at g1
      have hc := count_le a x i
      (try simp only [h1, g1, findK_str, outQ_gt, hm x, cv_getD, upd_ins, ex,reduceIte,reduceCtorEq,Nat.reduceEqDiff,Nat.reduceLT,Nat.reduceLeDiff,Nat.reduceAdd,Nat.reduceSub,Nat.reduceMul,Int.reduceAdd,Int.reduceSub,Int.reduceMul,Int.reduceNeg,Int.reduceLE,Int.reduceLT,Int.reduceEq,Int.reduceToNat]) <;> repeat ((with_reducible refine Req.intro ?_ ?_); (first | omega | (simp <;> omega)); try simp only [h1, g1, findK_str, outQ_gt, hm x, cv_getD, upd_ins, ex,reduceIte,reduceCtorEq,Nat.reduceEqDiff,Nat.reduceLT,Nat.reduceLeDiff,Nat.reduceAdd,Nat.reduceSub,Nat.reduceMul,Int.reduceAdd,Int.reduceSub,Int.reduceMul,Int.reduceNeg,Int.reduceLE,Int.reduceLT,Int.reduceEq,Int.reduceToNat])
      exact ih (i + 1) _ (by omega) (anchor_loop1 a i x cm g1 hm)
    | zero =>
      intro i cm hi hm
      apply hL1
      simp only [L13_1, l13_1, ex,reduceIte,reduceCtorEq,Nat.reduceEqDiff,Nat.reduceLT,Nat.reduceLeDiff,Nat.reduceAdd,Nat.reduceSub,Nat.reduceMul,Int.reduceAdd,Int.reduceSub,Int.reduceMul,Int.reduceNeg,Int.reduceLE,Int.reduceLT,Int.reduceEq,Int.reduceToNat]
      have h1 : decide ((i : Int) < (a.length : Int)) = false := by simp; omega
      (try simp only [h1, ex,reduceIte,reduceCtorEq,Nat.reduceEqDiff,Nat.reduceLT,Nat.reduceLeDiff,Nat.reduceAdd,Nat.reduceSub,Nat.reduceMul,Int.reduceAdd,Int.reduceSub,Int.reduceMul,Int.reduceNeg,Int.reduceLE,Int.reduceLT,Int.reduceEq,Int.reduceToNat]) <;> repeat ((with_reducible refine Req.intro ?_ ?_); (first | omega | (simp <;> omega)); try simp only [h1, ex,reduceIte,reduceCtorEq,Nat.reduceEqDiff,Nat.reduceLT,Nat.reduceLeDiff,Nat.reduceAdd,Nat.reduceSub,Nat.reduceMul,Int.reduceAdd,Int.reduceSub,Int.reduceMul,Int.reduceNeg,Int.reduceLE,Int.reduceLT,Int.reduceEq,Int.reduceToNat])
      have hm : CntM a a.length cm := by rw [show a.length = i by omega]; exact hm
      refine loopI fun L2 hL2 => ?_
      (try simp only [ex,reduceIte,reduceCtorEq,Nat.reduceEqDiff,Nat.reduceLT,Nat.reduceLeDiff,Nat.reduceAdd,Nat.reduceSub,Nat.reduceMul,Int.reduceAdd,Int.reduceSub,Int.reduceMul,Int.reduceNeg,Int.reduceLE,Int.reduceLT,Int.reduceEq,Int.reduceToNat]) <;> repeat ((with_reducible refine Req.intro ?_ ?_); (first | omega | (simp <;> omega)); try simp only [ex,reduceIte,reduceCtorEq,Nat.reduceEqDiff,Nat.reduceLT,Nat.reduceLeDiff,Nat.reduceAdd,Nat.reduceSub,Nat.reduceMul,Int.reduceAdd,Int.reduceSub,Int.reduceMul,Int.reduceNeg,Int.reduceLE,Int.reduceLT,Int.reduceEq,Int.reduceToNat])
      have key2 : ∀ (m k : Nat) (pm : MS), k + m = b.length → PlM b k pm → L2 (L13_2 (.sl o 1 (a.map .str)) (.sl o' 1 (b.map .str)) (.ptr 0 3 0 0) (.hm 1) (.hm 2) (.sl false 1 (b.map .str)) (.int .i64 b.length) (.int .i64 k) 0 [.int .i64 0, .int .i64 0, .int .i64 0] [(1, .map (emb cm)), (2, .map (emb pm))] 3) := by
        intro m
        induction m with
        | succ m ih =>
          intro k pm hk hp
          apply hL2
          simp only [L13_2, l13_2, ex,reduceIte,reduceCtorEq,Nat.reduceEqDiff,Nat.reduceLT,Nat.reduceLeDiff,Nat.reduceAdd,Nat.reduceSub,Nat.reduceMul,Int.reduceAdd,Int.reduceSub,Int.reduceMul,Int.reduceNeg,Int.reduceLE,Int.reduceLT,Int.reduceEq,Int.reduceToNat]
          have h1 : decide ((k : Int) < (b.length : Int)) = true := by simp; omega
          have g1 : b[k]? = some (b[k]'(by omega)) := List.getElem?_eq_getElem _
          generalize hx : b[k]'(by omega) = x at g1
          have hc := pls_len b x k
          have hpx := hp x
          rcases Classical.em (pls b x 0 k = []) with c | c
          · rw [c] at hpx
            have e : plsV (pls b x 0 k) ++ [V.int .i64 k] = [V.int .i64 k] := by rw [c]; rfl
            have h2 := anchor_loop2 b k x pm g1 hp pm (fun s _ => rfl)
            rw [e] at h2
            (try simp only [h1, g1, findK_str, lkT_none hpx, upd_ins, ex,reduceIte,reduceCtorEq,Nat.reduceEqDiff,Nat.reduceLT,Nat.reduceLeDiff,Nat.reduceAdd,Nat.reduceSub,Nat.reduceMul,Int.reduceAdd,Int.reduceSub,Int.reduceMul,Int.reduceNeg,Int.reduceLE,Int.reduceLT,Int.reduceEq,Int.reduceToNat]) <;> repeat ((with_reducible refine Req.intro ?_ ?_); (first | omega | (simp <;> omega)); try simp only [h1, g1, findK_str, lkT_none hpx, upd_ins, ex,reduceIte,reduceCtorEq,Nat.reduceEqDiff,Nat.reduceLT,Nat.reduceLeDiff,Nat.reduceAdd,Nat.reduceSub,Nat.reduceMul,Int.reduceAdd,Int.reduceSub,Int.reduceMul,Int.reduceNeg,Int.reduceLE,Int.reduceLT,Int.reduceEq,Int.reduceToNat])
            exact ih (k + 1) _ (by omega) h2
          · have hpx2 : gt pm x = some (.sl true 1 (plsV (pls b x 0 k))) := by rw [hpx, pv, if_neg c]
            have hpl : (plsV (pls b x 0 k)).length = (pls b x 0 k).length := by simp [plsV]
            have h2 := anchor_loop2 b k x pm g1 hp (ins pm x (clr2 (.sl true 1 (plsV (pls b x 0 k))))) (fun s hs => by rw [gt_ins, if_neg hs])
            (try simp only [h1, g1, findK_str, lkT_some hpx2, upd_ins, ex,reduceIte,reduceCtorEq,Nat.reduceEqDiff,Nat.reduceLT,Nat.reduceLeDiff,Nat.reduceAdd,Nat.reduceSub,Nat.reduceMul,Int.reduceAdd,Int.reduceSub,Int.reduceMul,Int.reduceNeg,Int.reduceLE,Int.reduceLT,Int.reduceEq,Int.reduceToNat]) <;> repeat ((with_reducible refine Req.intro ?_ ?_); (first | omega | (simp <;> omega)); try simp only [h1, g1, findK_str, lkT_some hpx2, upd_ins, ex,reduceIte,reduceCtorEq,Nat.reduceEqDiff,Nat.reduceLT,Nat.reduceLeDiff,Nat.reduceAdd,Nat.reduceSub,Nat.reduceMul,Int.reduceAdd,Int.reduceSub,Int.reduceMul,Int.reduceNeg,Int.reduceLE,Int.reduceLT,Int.reduceEq,Int.reduceToNat])
            exact ih (k + 1) _ (by omega) h2
        | zero =>
          intro k pm hk hp
          apply hL2
          simp only [L13_2, l13_2, ex,reduceIte,reduceCtorEq,Nat.reduceEqDiff,Nat.reduceLT,Nat.reduceLeDiff,Nat.reduceAdd,Nat.reduceSub,Nat.reduceMul,Int.reduceAdd,Int.reduceSub,Int.reduceMul,Int.reduceNeg,Int.reduceLE,Int.reduceLT,Int.reduceEq,Int.reduceToNat]
          have h1 : decide ((k : Int) < (b.length : Int)) = false := by simp; omega
          (try simp only [h1, ex,reduceIte,reduceCtorEq,Nat.reduceEqDiff,Nat.reduceLT,Nat.reduceLeDiff,Nat.reduceAdd,Nat.reduceSub,Nat.reduceMul,Int.reduceAdd,Int.reduceSub,Int.reduceMul,Int.reduceNeg,Int.reduceLE,Int.reduceLT,Int.reduceEq,Int.reduceToNat]) <;> repeat ((with_reducible refine Req.intro ?_ ?_); (first | omega | (simp <;> omega)); try simp only [h1, ex,reduceIte,reduceCtorEq,Nat.reduceEqDiff,Nat.reduceLT,Nat.reduceLeDiff,Nat.reduceAdd,Nat.reduceSub,Nat.reduceMul,Int.reduceAdd,Int.reduceSub,Int.reduceMul,Int.reduceNeg,Int.reduceLE,Int.reduceLT,Int.reduceEq,Int.reduceToNat])
          have hp : PlM b b.length pm := by rw [show b.length = k by omega]; exact hp
          refine loopI fun L5 hL5 => ?_
          (try simp only [ex,reduceIte,reduceCtorEq,Nat.reduceEqDiff,Nat.reduceLT,Nat.reduceLeDiff,Nat.reduceAdd,Nat.reduceSub,Nat.reduceMul,Int.reduceAdd,Int.reduceSub,Int.reduceMul,Int.reduceNeg,Int.reduceLE,Int.reduceLT,Int.reduceEq,Int.reduceToNat]) <;> repeat ((with_reducible refine Req.intro ?_ ?_); (first | omega | (simp <;> omega)); try simp only [ex,reduceIte,reduceCtorEq,Nat.reduceEqDiff,Nat.reduceLT,Nat.reduceLeDiff,Nat.reduceAdd,Nat.reduceSub,Nat.reduceMul,Int.reduceAdd,Int.reduceSub,Int.reduceMul,Int.reduceNeg,Int.reduceLE,Int.reduceLT,Int.reduceEq,Int.reduceToNat])
          have key5 : ∀ (m i : Nat) (s : PSt), i + m = a.length → pOut a b m i s = pRes a b → L5 (L13_5 (.sl o 1 (a.map .str)) (.sl o' 1 (b.map .str)) (.ptr 0 3 0 0) (.hm 1) (.hm 2) (.ptr 3 3 0 0) (.int .i64 s.rr) (.bool s.found) (.int .i64 a.length) (.int .i64 i) 0 [.int .i64 0, .int .i64 0, .int .i64 0] 3 [.int .i64 s.best.A, .int .i64 s.best.B, .int .i64 s.best.N] [(1, .map (emb cm)), (2, .map (emb pm))] 4) := by
            intro m
            induction m with
            | zero =>
              intro i s hi hs
              apply hL5
              simp only [L13_5, l13_5, ex,reduceIte,reduceCtorEq,Nat.reduceEqDiff,Nat.reduceLT,Nat.reduceLeDiff,Nat.reduceAdd,Nat.reduceSub,Nat.reduceMul,Int.reduceAdd,Int.reduceSub,Int.reduceMul,Int.reduceNeg,Int.reduceLE,Int.reduceLT,Int.reduceEq,Int.reduceToNat]
              have h1 : decide ((i : Int) < (a.length : Int)) = false := by simp; omega
              simp only [pOut] at hs
              subst hs
              (try simp only [h1, ex,reduceIte,reduceCtorEq,Nat.reduceEqDiff,Nat.reduceLT,Nat.reduceLeDiff,Nat.reduceAdd,Nat.reduceSub,Nat.reduceMul,Int.reduceAdd,Int.reduceSub,Int.reduceMul,Int.reduceNeg,Int.reduceLE,Int.reduceLT,Int.reduceEq,Int.reduceToNat]) <;> repeat ((with_reducible refine Req.intro ?_ ?_); (first | omega | (simp <;> omega)); try simp only [h1, ex,reduceIte,reduceCtorEq,Nat.reduceEqDiff,Nat.reduceLT,Nat.reduceLeDiff,Nat.reduceAdd,Nat.reduceSub,Nat.reduceMul,Int.reduceAdd,Int.reduceSub,Int.reduceMul,Int.reduceNeg,Int.reduceLE,Int.reduceLT,Int.reduceEq,Int.reduceToNat])
            | succ m ih =>
              intro i s hi hs
              apply hL5
              simp only [L13_5, l13_5, ex,reduceIte,reduceCtorEq,Nat.reduceEqDiff,Nat.reduceLT,Nat.reduceLeDiff,Nat.reduceAdd,Nat.reduceSub,Nat.reduceMul,Int.reduceAdd,Int.reduceSub,Int.reduceMul,Int.reduceNeg,Int.reduceLE,Int.reduceLT,Int.reduceEq,Int.reduceToNat]
              have h1 : decide ((i : Int) < (a.length : Int)) = true := by simp; omega
              have g1 : a[i]? = some (a[i]'(by omega)) := List.getElem?_eq_getElem _
              generalize hx : a[i]'(by omega) = x at g1
              simp only [pOut, g1, Option.getD_some] at hs
              have hpl := pls_len b x b.length
              have hplt := pls_lt b x b.length
              generalize hl : pls b x 0 b.length = l at *
              have hpx : clr2 ((gt pm x).getD (.sl true 1 [])) = .sl false 1 (plsV l) := by rw [hp x, pv_getD, hl]
              have hll : (plsV l).length = l.length := by simp [plsV]
              (try simp only [h1, g1, findK_str, outQ_gt, hpx, hll, ex,reduceIte,reduceCtorEq,Nat.reduceEqDiff,Nat.reduceLT,Nat.reduceLeDiff,Nat.reduceAdd,Nat.reduceSub,Nat.reduceMul,Int.reduceAdd,Int.reduceSub,Int.reduceMul,Int.reduceNeg,Int.reduceLE,Int.reduceLT,Int.reduceEq,Int.reduceToNat]) <;> repeat ((with_reducible refine Req.intro ?_ ?_); (first | omega | (simp <;> omega)); try simp only [h1, g1, findK_str, outQ_gt, hpx, hll, ex,reduceIte,reduceCtorEq,Nat.reduceEqDiff,Nat.reduceLT,Nat.reduceLeDiff,Nat.reduceAdd,Nat.reduceSub,Nat.reduceMul,Int.reduceAdd,Int.reduceSub,Int.reduceMul,Int.reduceNeg,Int.reduceLE,Int.reduceLT,Int.reduceEq,Int.reduceToNat])
              refine loopI fun L4 hL4 => ?_
              (try simp only [ex,reduceIte,reduceCtorEq,Nat.reduceEqDiff,Nat.reduceLT,Nat.reduceLeDiff,Nat.reduceAdd,Nat.reduceSub,Nat.reduceMul,Int.reduceAdd,Int.reduceSub,Int.reduceMul,Int.reduceNeg,Int.reduceLE,Int.reduceLT,Int.reduceEq,Int.reduceToNat]) <;> repeat ((with_reducible refine Req.intro ?_ ?_); (first | omega | (simp <;> omega)); try simp only [ex,reduceIte,reduceCtorEq,Nat.reduceEqDiff,Nat.reduceLT,Nat.reduceLeDiff,Nat.reduceAdd,Nat.reduceSub,Nat.reduceMul,Int.reduceAdd,Int.reduceSub,Int.reduceMul,Int.reduceNeg,Int.reduceLE,Int.reduceLT,Int.reduceEq,Int.reduceToNat])
              have key4 : ∀ (q p : Nat) (s : PSt), p + q = l.length → pOut a b m (i + 1) (pIn a b i (l.drop p) s) = pRes a b → L4 (L13_4 (.sl o 1 (a.map .str)) (.sl o' 1 (b.map .str)) (.ptr 0 3 0 0) (.hm 1) (.hm 2) (.ptr 3 3 0 0) (.int .i64 s.rr) (.bool s.found) (.int .i64 i) (.int .i64 a.length) (.int .i64 i) (.sl false 1 (plsV l)) (.int .i64 l.length) (.int .i64 p) 0 [.int .i64 0, .int .i64 0, .int .i64 0] 3 [.int .i64 s.best.A, .int .i64 s.best.B, .int .i64 s.best.N] [(1, .map (emb cm)), (2, .map (emb pm))] 4) := by
                intro q
                induction q with
                | zero =>
                  intro p s hp' hs
                  apply hL4
                  simp only [L13_4, l13_4, ex,reduceIte,reduceCtorEq,Nat.reduceEqDiff,Nat.reduceLT,Nat.reduceLeDiff,Nat.reduceAdd,Nat.reduceSub,Nat.reduceMul,Int.reduceAdd,Int.reduceSub,Int.reduceMul,Int.reduceNeg,Int.reduceLE,Int.reduceLT,Int.reduceEq,Int.reduceToNat]
                  have h1 : decide ((p : Int) < (l.length : Int)) = false := by simp; omega
                  rw [List.drop_of_length_le (by omega)] at hs
                  (try simp only [h1, ex,reduceIte,reduceCtorEq,Nat.reduceEqDiff,Nat.reduceLT,Nat.reduceLeDiff,Nat.reduceAdd,Nat.reduceSub,Nat.reduceMul,Int.reduceAdd,Int.reduceSub,Int.reduceMul,Int.reduceNeg,Int.reduceLE,Int.reduceLT,Int.reduceEq,Int.reduceToNat]) <;> repeat ((with_reducible refine Req.intro ?_ ?_); (first | omega | (simp <;> omega)); try simp only [h1, ex,reduceIte,reduceCtorEq,Nat.reduceEqDiff,Nat.reduceLT,Nat.reduceLeDiff,Nat.reduceAdd,Nat.reduceSub,Nat.reduceMul,Int.reduceAdd,Int.reduceSub,Int.reduceMul,Int.reduceNeg,Int.reduceLE,Int.reduceLT,Int.reduceEq,Int.reduceToNat])
                  exact ih (i + 1) s (by omega) hs
                | succ q ih2 =>
                  intro p s hp' hs
                  apply hL4
                  simp only [L13_4, l13_4, ex,reduceIte,reduceCtorEq,Nat.reduceEqDiff,Nat.reduceLT,Nat.reduceLeDiff,Nat.reduceAdd,Nat.reduceSub,Nat.reduceMul,Int.reduceAdd,Int.reduceSub,Int.reduceMul,Int.reduceNeg,Int.reduceLE,Int.reduceLT,Int.reduceEq,Int.reduceToNat]
                  have h1 : decide ((p : Int) < (l.length : Int)) = true := by simp; omega
                  have g2 : (plsV l)[p]? = some (.int .i64 (l[p]'(by omega) : Nat)) := by
                    unfold plsV; rw [List.getElem?_map, List.getElem?_eq_getElem (by omega)]; rfl
                  rw [List.drop_eq_getElem_cons (by omega), pIn] at hs
                  have hj := hplt _ (List.getElem_mem (show p < l.length by omega))
                  generalize hjx : l[p]'(by omega) = j at *
                  obtain ⟨hj1, hj2⟩ := hj
                  (try simp only [h1, g2, ex,reduceIte,reduceCtorEq,Nat.reduceEqDiff,Nat.reduceLT,Nat.reduceLeDiff,Nat.reduceAdd,Nat.reduceSub,Nat.reduceMul,Int.reduceAdd,Int.reduceSub,Int.reduceMul,Int.reduceNeg,Int.reduceLE,Int.reduceLT,Int.reduceEq,Int.reduceToNat]) <;> repeat ((with_reducible refine Req.intro ?_ ?_); (first | omega | (simp <;> omega)); try simp only [h1, g2, ex,reduceIte,reduceCtorEq,Nat.reduceEqDiff,Nat.reduceLT,Nat.reduceLeDiff,Nat.reduceAdd,Nat.reduceSub,Nat.reduceMul,Int.reduceAdd,Int.reduceSub,Int.reduceMul,Int.reduceNeg,Int.reduceLE,Int.reduceLT,Int.reduceEq,Int.reduceToNat])
                  have hm' : ∀ s, gt cm s = cv (a.count s) := fun s => by rw [hm s, List.take_length]
                  rcases Classical.em (skips a b i j = true) with hsk | hsk
                  · have hsk' := hsk
                    simp only [skips, Bool.and_eq_true, decide_eq_true_iff] at hsk'
                    obtain ⟨⟨s1, s2⟩, s3⟩ := hsk'
                    have h1 : decide ((i : Int) > 0) = true := by simp; omega
                    have h2 : decide ((j : Int) > 0) = true := by simp; omega
                    have t1 : ((i : Int) - 1).toNat = i - 1 := by omega
                    have t2 : ((j : Int) - 1).toNat = j - 1 := by omega
                    have e1 : a[i - 1]? = some (a[i - 1]'(by omega)) := List.getElem?_eq_getElem _
                    have e2 : b[j - 1]? = some (b[j - 1]'(by omega)) := List.getElem?_eq_getElem _
                    have e3 : decide (a[i - 1]'(by omega) = b[j - 1]'(by omega)) = true := by
                      rw [e1, e2] at s3
                      simpa using s3
                    have hst : pstep a b i j s = s := by unfold pstep; rw [if_pos hsk]
                    rw [hst] at hs
                    (try simp only [h1, h2, t1, t2, e1, e2, e3, ex,reduceIte,reduceCtorEq,Nat.reduceEqDiff,Nat.reduceLT,Nat.reduceLeDiff,Nat.reduceAdd,Nat.reduceSub,Nat.reduceMul,Int.reduceAdd,Int.reduceSub,Int.reduceMul,Int.reduceNeg,Int.reduceLE,Int.reduceLT,Int.reduceEq,Int.reduceToNat]) <;> repeat ((with_reducible refine Req.intro ?_ ?_); (first | omega | (simp <;> omega)); try simp only [h1, h2, t1, t2, e1, e2, e3, ex,reduceIte,reduceCtorEq,Nat.reduceEqDiff,Nat.reduceLT,Nat.reduceLeDiff,Nat.reduceAdd,Nat.reduceSub,Nat.reduceMul,Int.reduceAdd,Int.reduceSub,Int.reduceMul,Int.reduceNeg,Int.reduceLE,Int.reduceLT,Int.reduceEq,Int.reduceToNat])
                    exact ih2 (p + 1) s (by omega) hs
                  · have hcases : i = 0 ∨ (0 < i ∧ j = 0) ∨ (0 < i ∧ 0 < j ∧ a[i - 1]? ≠ b[j - 1]?) := by
                      simp only [skips, Bool.and_eq_true, decide_eq_true_iff, not_and] at hsk
                      rcases Nat.eq_zero_or_pos i with c | c
                      · exact .inl c
                      · rcases Nat.eq_zero_or_pos j with c2 | c2
                        · exact .inr (.inl ⟨c, c2⟩)
                        · exact .inr (.inr ⟨c, c2, hsk ⟨c, c2⟩⟩)
                    have hle := lcp_le (a.drop i) (b.drop j)
                    simp only [List.length_drop] at hle
                    have hst : pstep a b i j s = if ptake a b i j s = true then ⟨pnew a b i j, rare 65 a (pnew a b i j), true⟩ else s := by unfold pstep; rw [if_neg hsk]
                    apply shareL
                    · intro share
                      rcases hcases with c | ⟨c, c'⟩ | ⟨c, c', c''⟩
                      · have h1 : decide ((i : Int) > 0) = false := by simp; omega
                        (try simp only [h1, ex,reduceIte,reduceCtorEq,Nat.reduceEqDiff,Nat.reduceLT,Nat.reduceLeDiff,Nat.reduceAdd,Nat.reduceSub,Nat.reduceMul,Int.reduceAdd,Int.reduceSub,Int.reduceMul,Int.reduceNeg,Int.reduceLE,Int.reduceLT,Int.reduceEq,Int.reduceToNat]) <;> repeat ((with_reducible refine Req.intro ?_ ?_); (first | omega | (simp <;> omega)); try simp only [h1, ex,reduceIte,reduceCtorEq,Nat.reduceEqDiff,Nat.reduceLT,Nat.reduceLeDiff,Nat.reduceAdd,Nat.reduceSub,Nat.reduceMul,Int.reduceAdd,Int.reduceSub,Int.reduceMul,Int.reduceNeg,Int.reduceLE,Int.reduceLT,Int.reduceEq,Int.reduceToNat])
                        exact share.out
                      · have h1 : decide ((i : Int) > 0) = true := by simp; omega
                        have h2 : decide ((j : Int) > 0) = false := by simp; omega
                        (try simp only [h1, h2, ex,reduceIte,reduceCtorEq,Nat.reduceEqDiff,Nat.reduceLT,Nat.reduceLeDiff,Nat.reduceAdd,Nat.reduceSub,Nat.reduceMul,Int.reduceAdd,Int.reduceSub,Int.reduceMul,Int.reduceNeg,Int.reduceLE,Int.reduceLT,Int.reduceEq,Int.reduceToNat]) <;> repeat ((with_reducible refine Req.intro ?_ ?_); (first | omega | (simp <;> omega)); try simp only [h1, h2, ex,reduceIte,reduceCtorEq,Nat.reduceEqDiff,Nat.reduceLT,Nat.reduceLeDiff,Nat.reduceAdd,Nat.reduceSub,Nat.reduceMul,Int.reduceAdd,Int.reduceSub,Int.reduceMul,Int.reduceNeg,Int.reduceLE,Int.reduceLT,Int.reduceEq,Int.reduceToNat])
                        exact share.out
                      · have h1 : decide ((i : Int) > 0) = true := by simp; omega
                        have h2 : decide ((j : Int) > 0) = true := by simp; omega
                        have t1 : ((i : Int) - 1).toNat = i - 1 := by omega
                        have t2 : ((j : Int) - 1).toNat = j - 1 := by omega
                        have e1 : a[i - 1]? = some (a[i - 1]'(by omega)) := List.getElem?_eq_getElem _
                        have e2 : b[j - 1]? = some (b[j - 1]'(by omega)) := List.getElem?_eq_getElem _
                        have e3 : decide (a[i - 1]'(by omega) = b[j - 1]'(by omega)) = false := by
                          rw [e1, e2] at c''
                          simpa using c''
                        (try simp only [h1, h2, t1, t2, e1, e2, e3, ex,reduceIte,reduceCtorEq,Nat.reduceEqDiff,Nat.reduceLT,Nat.reduceLeDiff,Nat.reduceAdd,Nat.reduceSub,Nat.reduceMul,Int.reduceAdd,Int.reduceSub,Int.reduceMul,Int.reduceNeg,Int.reduceLE,Int.reduceLT,Int.reduceEq,Int.reduceToNat]) <;> repeat ((with_reducible refine Req.intro ?_ ?_); (first | omega | (simp <;> omega)); try simp only [h1, h2, t1, t2, e1, e2, e3, ex,reduceIte,reduceCtorEq,Nat.reduceEqDiff,Nat.reduceLT,Nat.reduceLeDiff,Nat.reduceAdd,Nat.reduceSub,Nat.reduceMul,Int.reduceAdd,Int.reduceSub,Int.reduceMul,Int.reduceNeg,Int.reduceLE,Int.reduceLT,Int.reduceEq,Int.reduceToNat])
                        exact share.out
                    · refine loopI fun L3 hL3 => ?_
                      (try simp only [ex,reduceIte,reduceCtorEq,Nat.reduceEqDiff,Nat.reduceLT,Nat.reduceLeDiff,Nat.reduceAdd,Nat.reduceSub,Nat.reduceMul,Int.reduceAdd,Int.reduceSub,Int.reduceMul,Int.reduceNeg,Int.reduceLE,Int.reduceLT,Int.reduceEq,Int.reduceToNat]) <;> repeat ((with_reducible refine Req.intro ?_ ?_); (first | omega | (simp <;> omega)); try simp only [ex,reduceIte,reduceCtorEq,Nat.reduceEqDiff,Nat.reduceLT,Nat.reduceLeDiff,Nat.reduceAdd,Nat.reduceSub,Nat.reduceMul,Int.reduceAdd,Int.reduceSub,Int.reduceMul,Int.reduceNeg,Int.reduceLE,Int.reduceLT,Int.reduceEq,Int.reduceToNat])
                      have key3 : ∀ q n : Nat, n + q = lcp (a.drop i) (b.drop j) → L3 (L13_3 (.sl o 1 (a.map .str)) (.sl o' 1 (b.map .str)) (.ptr 0 3 0 0) (.hm 1) (.hm 2) (.ptr 3 3 0 0) (.int .i64 s.rr) (.bool s.found) (.int .i64 i) (.int .i64 j) (.int .i64 n) (.int .i64 (rare 65 a ⟨i, j, n⟩ : Nat)) (.int .i64 a.length) (.int .i64 i) (.sl false 1 (plsV l)) (.int .i64 l.length) (.int .i64 p) 0 [.int .i64 0, .int .i64 0, .int .i64 0] 3 [.int .i64 s.best.A, .int .i64 s.best.B, .int .i64 s.best.N] [(1, .map (emb cm)), (2, .map (emb pm))] 4) := by
                        intro q
                        induction q with
                        | succ q ih3 =>
                          intro n hn
                          apply hL3
                          simp only [L13_3, l13_3, ex,reduceIte,reduceCtorEq,Nat.reduceEqDiff,Nat.reduceLT,Nat.reduceLeDiff,Nat.reduceAdd,Nat.reduceSub,Nat.reduceMul,Int.reduceAdd,Int.reduceSub,Int.reduceMul,Int.reduceNeg,Int.reduceLE,Int.reduceLT,Int.reduceEq,Int.reduceToNat]
                          obtain ⟨t, u1, u2⟩ := lcp_lt (a.drop i) (b.drop j) n (by omega)
                          have hr2 : rare 65 a ⟨i, j, n + 1⟩ = min (rare 65 a ⟨i, j, n⟩) (a.count t) := by
                            rw [rare_pre, rare_pre, List.take_add_one, u1]
                            simp [List.foldl_append]
                          have hrl := rare_le 65 a ⟨i, j, n⟩
                          rw [drop_get] at u1 u2
                          have c1 := (List.getElem?_eq_some_iff.1 u1).1
                          have c2 := (List.getElem?_eq_some_iff.1 u2).1
                          have v1 : decide ((i : Int) + (n : Int) < (a.length : Int)) = true := by simp; omega
                          have v2 : decide ((j : Int) + (n : Int) < (b.length : Int)) = true := by simp; omega
                          (try simp only [ex,reduceIte,reduceCtorEq,Nat.reduceEqDiff,Nat.reduceLT,Nat.reduceLeDiff,Nat.reduceAdd,Nat.reduceSub,Nat.reduceMul,Int.reduceAdd,Int.reduceSub,Int.reduceMul,Int.reduceNeg,Int.reduceLE,Int.reduceLT,Int.reduceEq,Int.reduceToNat]) <;> repeat ((with_reducible refine Req.intro ?_ ?_); (first | omega | (simp <;> omega)); try simp only [ex,reduceIte,reduceCtorEq,Nat.reduceEqDiff,Nat.reduceLT,Nat.reduceLeDiff,Nat.reduceAdd,Nat.reduceSub,Nat.reduceMul,Int.reduceAdd,Int.reduceSub,Int.reduceMul,Int.reduceNeg,Int.reduceLE,Int.reduceLT,Int.reduceEq,Int.reduceToNat])
                          (try simp only [v1, v2, u1, u2, ex,reduceIte,reduceCtorEq,Nat.reduceEqDiff,Nat.reduceLT,Nat.reduceLeDiff,Nat.reduceAdd,Nat.reduceSub,Nat.reduceMul,Int.reduceAdd,Int.reduceSub,Int.reduceMul,Int.reduceNeg,Int.reduceLE,Int.reduceLT,Int.reduceEq,Int.reduceToNat]) <;> repeat ((with_reducible refine Req.intro ?_ ?_); (first | omega | (simp <;> omega)); try simp only [v1, v2, u1, u2, ex,reduceIte,reduceCtorEq,Nat.reduceEqDiff,Nat.reduceLT,Nat.reduceLeDiff,Nat.reduceAdd,Nat.reduceSub,Nat.reduceMul,Int.reduceAdd,Int.reduceSub,Int.reduceMul,Int.reduceNeg,Int.reduceLE,Int.reduceLT,Int.reduceEq,Int.reduceToNat])
                          (try simp only [u1, findK_str, outQ_gt, hm' t, cv_getD, ifmin, ex,reduceIte,reduceCtorEq,Nat.reduceEqDiff,Nat.reduceLT,Nat.reduceLeDiff,Nat.reduceAdd,Nat.reduceSub,Nat.reduceMul,Int.reduceAdd,Int.reduceSub,Int.reduceMul,Int.reduceNeg,Int.reduceLE,Int.reduceLT,Int.reduceEq,Int.reduceToNat]) <;> repeat ((with_reducible refine Req.intro ?_ ?_); (first | omega | (simp <;> omega)); try simp only [u1, findK_str, outQ_gt, hm' t, cv_getD, ifmin, ex,reduceIte,reduceCtorEq,Nat.reduceEqDiff,Nat.reduceLT,Nat.reduceLeDiff,Nat.reduceAdd,Nat.reduceSub,Nat.reduceMul,Int.reduceAdd,Int.reduceSub,Int.reduceMul,Int.reduceNeg,Int.reduceLE,Int.reduceLT,Int.reduceEq,Int.reduceToNat])
                          have h9 := ih3 (n + 1) (by omega)
                          rw [hr2] at h9
                          exact h9
                        | zero =>
                          intro n hn
                          apply hL3
                          simp only [L13_3, l13_3, ex,reduceIte,reduceCtorEq,Nat.reduceEqDiff,Nat.reduceLT,Nat.reduceLeDiff,Nat.reduceAdd,Nat.reduceSub,Nat.reduceMul,Int.reduceAdd,Int.reduceSub,Int.reduceMul,Int.reduceNeg,Int.reduceLE,Int.reduceLT,Int.reduceEq,Int.reduceToNat]
                          rw [Nat.add_zero] at hn
                          have hend : ∀ s t, a[i + n]? = some s → b[j + n]? = some t → s ≠ t := fun s t h1 h2 => by
                            rw [← drop_get] at h1 h2
                            rw [hn] at h1 h2
                            exact lcp_end _ _ s t h1 h2
                          have hpn : pnew a b i j = ⟨i, j, n⟩ := by unfold pnew; rw [hn]
                          have hpt : ptake a b i j s = (decide (rare 65 a ⟨i, j, n⟩ < s.rr) || (s.found && decide (rare 65 a ⟨i, j, n⟩ = s.rr) && decide (s.best.N < n))) := by unfold ptake; rw [hpn]
                          rw [hpt, hpn] at hst
                          rw [hst] at hs
                          generalize hR : rare 65 a ⟨i, j, n⟩ = R at *
                          have v12 : (decide ((i : Int) + (n : Int) < (a.length : Int)) = false) ∨ (decide ((i : Int) + (n : Int) < (a.length : Int)) = true ∧ decide ((j : Int) + (n : Int) < (b.length : Int)) = false) ∨ (decide ((i : Int) + (n : Int) < (a.length : Int)) = true ∧ decide ((j : Int) + (n : Int) < (b.length : Int)) = true ∧ ∃ x y, a[i + n]? = some x ∧ b[j + n]? = some y ∧ decide (x = y) = false) := by
                            rcases Classical.em (i + n < a.length) with c1 | c1
                            · rcases Classical.em (j + n < b.length) with c2 | c2
                              · exact .inr (.inr ⟨by simp; omega, by simp; omega, _, _, List.getElem?_eq_getElem c1, List.getElem?_eq_getElem c2, by simpa using hend _ _ (List.getElem?_eq_getElem c1) (List.getElem?_eq_getElem c2)⟩)
                              · exact .inr (.inl ⟨by simp; omega, by simp; omega⟩)
                            · exact .inl (by simp; omega)
                          (try simp only [ex,reduceIte,reduceCtorEq,Nat.reduceEqDiff,Nat.reduceLT,Nat.reduceLeDiff,Nat.reduceAdd,Nat.reduceSub,Nat.reduceMul,Int.reduceAdd,Int.reduceSub,Int.reduceMul,Int.reduceNeg,Int.reduceLE,Int.reduceLT,Int.reduceEq,Int.reduceToNat]) <;> repeat ((with_reducible refine Req.intro ?_ ?_); (first | omega | (simp <;> omega)); try simp only [ex,reduceIte,reduceCtorEq,Nat.reduceEqDiff,Nat.reduceLT,Nat.reduceLeDiff,Nat.reduceAdd,Nat.reduceSub,Nat.reduceMul,Int.reduceAdd,Int.reduceSub,Int.reduceMul,Int.reduceNeg,Int.reduceLE,Int.reduceLT,Int.reduceEq,Int.reduceToNat])
                          apply shareL
                          · intro share
                            rcases v12 with v1 | ⟨v1, v2⟩ | ⟨v1, v2, x1, y1, u1, u2, u3⟩
                            · (try simp only [v1, ex,reduceIte,reduceCtorEq,Nat.reduceEqDiff,Nat.reduceLT,Nat.reduceLeDiff,Nat.reduceAdd,Nat.reduceSub,Nat.reduceMul,Int.reduceAdd,Int.reduceSub,Int.reduceMul,Int.reduceNeg,Int.reduceLE,Int.reduceLT,Int.reduceEq,Int.reduceToNat]) <;> repeat ((with_reducible refine Req.intro ?_ ?_); (first | omega | (simp <;> omega)); try simp only [v1, ex,reduceIte,reduceCtorEq,Nat.reduceEqDiff,Nat.reduceLT,Nat.reduceLeDiff,Nat.reduceAdd,Nat.reduceSub,Nat.reduceMul,Int.reduceAdd,Int.reduceSub,Int.reduceMul,Int.reduceNeg,Int.reduceLE,Int.reduceLT,Int.reduceEq,Int.reduceToNat])
                              exact share.out
                            · (try simp only [v1, v2, ex,reduceIte,reduceCtorEq,Nat.reduceEqDiff,Nat.reduceLT,Nat.reduceLeDiff,Nat.reduceAdd,Nat.reduceSub,Nat.reduceMul,Int.reduceAdd,Int.reduceSub,Int.reduceMul,Int.reduceNeg,Int.reduceLE,Int.reduceLT,Int.reduceEq,Int.reduceToNat]) <;> repeat ((with_reducible refine Req.intro ?_ ?_); (first | omega | (simp <;> omega)); try simp only [v1, v2, ex,reduceIte,reduceCtorEq,Nat.reduceEqDiff,Nat.reduceLT,Nat.reduceLeDiff,Nat.reduceAdd,Nat.reduceSub,Nat.reduceMul,Int.reduceAdd,Int.reduceSub,Int.reduceMul,Int.reduceNeg,Int.reduceLE,Int.reduceLT,Int.reduceEq,Int.reduceToNat])
                              exact share.out
                            · (try simp only [v1, v2, u1, u2, u3, ex,reduceIte,reduceCtorEq,Nat.reduceEqDiff,Nat.reduceLT,Nat.reduceLeDiff,Nat.reduceAdd,Nat.reduceSub,Nat.reduceMul,Int.reduceAdd,Int.reduceSub,Int.reduceMul,Int.reduceNeg,Int.reduceLE,Int.reduceLT,Int.reduceEq,Int.reduceToNat]) <;> repeat ((with_reducible refine Req.intro ?_ ?_); (first | omega | (simp <;> omega)); try simp only [v1, v2, u1, u2, u3, ex,reduceIte,reduceCtorEq,Nat.reduceEqDiff,Nat.reduceLT,Nat.reduceLeDiff,Nat.reduceAdd,Nat.reduceSub,Nat.reduceMul,Int.reduceAdd,Int.reduceSub,Int.reduceMul,Int.reduceNeg,Int.reduceLE,Int.reduceLT,Int.reduceEq,Int.reduceToNat])
                              exact share.out
                          · rcases Classical.em (R < s.rr) with w1 | w1
                            · have k1 : decide ((R : Int) < (s.rr : Int)) = true := by simp; omega
                              rw [if_pos (by simp [w1])] at hs
                              (try simp only [k1, ex,reduceIte,reduceCtorEq,Nat.reduceEqDiff,Nat.reduceLT,Nat.reduceLeDiff,Nat.reduceAdd,Nat.reduceSub,Nat.reduceMul,Int.reduceAdd,Int.reduceSub,Int.reduceMul,Int.reduceNeg,Int.reduceLE,Int.reduceLT,Int.reduceEq,Int.reduceToNat]) <;> repeat ((with_reducible refine Req.intro ?_ ?_); (first | omega | (simp <;> omega)); try simp only [k1, ex,reduceIte,reduceCtorEq,Nat.reduceEqDiff,Nat.reduceLT,Nat.reduceLeDiff,Nat.reduceAdd,Nat.reduceSub,Nat.reduceMul,Int.reduceAdd,Int.reduceSub,Int.reduceMul,Int.reduceNeg,Int.reduceLE,Int.reduceLT,Int.reduceEq,Int.reduceToNat])
                              exact ih2 (p + 1) ⟨⟨i, j, n⟩, R, true⟩ (by omega) hs
                            · have k1 : decide ((R : Int) < (s.rr : Int)) = false := by simp; omega
                              cases hf : s.found with
                              | false =>
                                rw [if_neg (by simp [w1, hf])] at hs
                                (try simp only [k1, ex,reduceIte,reduceCtorEq,Nat.reduceEqDiff,Nat.reduceLT,Nat.reduceLeDiff,Nat.reduceAdd,Nat.reduceSub,Nat.reduceMul,Int.reduceAdd,Int.reduceSub,Int.reduceMul,Int.reduceNeg,Int.reduceLE,Int.reduceLT,Int.reduceEq,Int.reduceToNat]) <;> repeat ((with_reducible refine Req.intro ?_ ?_); (first | omega | (simp <;> omega)); try simp only [k1, ex,reduceIte,reduceCtorEq,Nat.reduceEqDiff,Nat.reduceLT,Nat.reduceLeDiff,Nat.reduceAdd,Nat.reduceSub,Nat.reduceMul,Int.reduceAdd,Int.reduceSub,Int.reduceMul,Int.reduceNeg,Int.reduceLE,Int.reduceLT,Int.reduceEq,Int.reduceToNat])
                                have h9 := ih2 (p + 1) s (by omega) hs
                                rw [hf] at h9
                                exact h9
                              | true =>
                                rcases Classical.em (R = s.rr) with w2 | w2
                                · have k2 : decide ((R : Int) = (s.rr : Int)) = true := by simp; omega
                                  rcases Classical.em (s.best.N < n) with w3 | w3
                                  · have k3 : decide ((n : Int) > (s.best.N : Int)) = true := by simp; omega
                                    rw [if_pos (by simp [w2, hf, w3])] at hs
                                    (try simp only [k1, k2, k3, ex,reduceIte,reduceCtorEq,Nat.reduceEqDiff,Nat.reduceLT,Nat.reduceLeDiff,Nat.reduceAdd,Nat.reduceSub,Nat.reduceMul,Int.reduceAdd,Int.reduceSub,Int.reduceMul,Int.reduceNeg,Int.reduceLE,Int.reduceLT,Int.reduceEq,Int.reduceToNat]) <;> repeat ((with_reducible refine Req.intro ?_ ?_); (first | omega | (simp <;> omega)); try simp only [k1, k2, k3, ex,reduceIte,reduceCtorEq,Nat.reduceEqDiff,Nat.reduceLT,Nat.reduceLeDiff,Nat.reduceAdd,Nat.reduceSub,Nat.reduceMul,Int.reduceAdd,Int.reduceSub,Int.reduceMul,Int.reduceNeg,Int.reduceLE,Int.reduceLT,Int.reduceEq,Int.reduceToNat])
                                    exact ih2 (p + 1) ⟨⟨i, j, n⟩, R, true⟩ (by omega) hs
                                  · have k3 : decide ((n : Int) > (s.best.N : Int)) = false := by simp; omega
                                    rw [if_neg (by simp [w2, hf]; omega)] at hs
                                    (try simp only [k1, k2, k3, ex,reduceIte,reduceCtorEq,Nat.reduceEqDiff,Nat.reduceLT,Nat.reduceLeDiff,Nat.reduceAdd,Nat.reduceSub,Nat.reduceMul,Int.reduceAdd,Int.reduceSub,Int.reduceMul,Int.reduceNeg,Int.reduceLE,Int.reduceLT,Int.reduceEq,Int.reduceToNat]) <;> repeat ((with_reducible refine Req.intro ?_ ?_); (first | omega | (simp <;> omega)); try simp only [k1, k2, k3, ex,reduceIte,reduceCtorEq,Nat.reduceEqDiff,Nat.reduceLT,Nat.reduceLeDiff,Nat.reduceAdd,Nat.reduceSub,Nat.reduceMul,Int.reduceAdd,Int.reduceSub,Int.reduceMul,Int.reduceNeg,Int.reduceLE,Int.reduceLT,Int.reduceEq,Int.reduceToNat])
                                    have h9 := ih2 (p + 1) s (by omega) hs
                                    rw [hf] at h9
                                    exact h9
                                · have k2 : decide ((R : Int) = (s.rr : Int)) = false := by simp; omega
                                  rw [if_neg (by simp [w1, w2, hf])] at hs
                                  (try simp only [k1, k2, ex,reduceIte,reduceCtorEq,Nat.reduceEqDiff,Nat.reduceLT,Nat.reduceLeDiff,Nat.reduceAdd,Nat.reduceSub,Nat.reduceMul,Int.reduceAdd,Int.reduceSub,Int.reduceMul,Int.reduceNeg,Int.reduceLE,Int.reduceLT,Int.reduceEq,Int.reduceToNat]) <;> repeat ((with_reducible refine Req.intro ?_ ?_); (first | omega | (simp <;> omega)); try simp only [k1, k2, ex,reduceIte,reduceCtorEq,Nat.reduceEqDiff,Nat.reduceLT,Nat.reduceLeDiff,Nat.reduceAdd,Nat.reduceSub,Nat.reduceMul,Int.reduceAdd,Int.reduceSub,Int.reduceMul,Int.reduceNeg,Int.reduceLE,Int.reduceLT,Int.reduceEq,Int.reduceToNat])
                                  have h9 := ih2 (p + 1) s (by omega) hs
                                  rw [hf] at h9
                                  exact h9
                      exact key3 (lcp (a.drop i) (b.drop j)) 0 (Nat.zero_add _)
              exact key4 l.length 0 s (Nat.zero_add _) hs
          exact key5 a.length 0 ⟨⟨0, 0, 0⟩, 65, false⟩ (Nat.zero_add _) rfl
      exact key2 b.length 0 [] (Nat.zero_add _) (fun s => by simp [gt, pv, pls])
  exact key1 a.length 0 [] (Nat.zero_add _) (fun s => by simp [gt, cv])
end Go.Proofs.Ytmmcepbcjlopdaa.E.Hs

/- Runs without lines are found: histo.Script$1 and slices.IndexFunc at it. Conditions: none. -/
namespace Go.Proofs.Ytmmcepbcjlopdaa.E.Hs
set_option linter.unusedVariables false
set_option linter.unusedSimpArgs false
set_option maxHeartbeats 20000000

theorem isZ_spec (r : Rn) (h : Heap) (n : Nat) : Run tab 24 0 [(.agg [.int .i64 (r).A, .int .i64 (r).B, .int .i64 (r).N])] h n (fun x h' n' => x = .bool (decide ((r.N : Int) = 0)) ∧ h' = h ∧ n' = n + 1) := by
  refine enter (F := f24) rfl rfl ?_
  simp only [f24, ex,reduceIte,reduceCtorEq,Nat.reduceEqDiff,Nat.reduceLT,Nat.reduceLeDiff,Nat.reduceAdd,Nat.reduceSub,Nat.reduceMul,Int.reduceAdd,Int.reduceSub,Int.reduceMul,Int.reduceNeg,Int.reduceLE,Int.reduceLT,Int.reduceEq,Int.reduceToNat]

def rH (b : Nat) (L : List V) : Heap := [(b, .rows 3 L)]
/-- Where the first run without lines stands. -/
def idxZ : List Rn → Nat → Int
  | [], _ => -1
  | r :: l, p => if r.N = 0 then p else idxZ l (p + 1)
theorem indexZ_spec (b n : Nat) (l : List Rn) (hl : l.length ≤ 1000000) :
    Run tab 36 0 [.hs b 3 0 l.length, .fn 24 []] (rH b (l.map rnV)) n (fun x h' n' => x = .int .i64 (idxZ l 0) ∧ h' = rH b (l.map rnV)) := by
  refine enter (F := f36) rfl rfl ?_
  simp only [f36, rH, ex,reduceIte,reduceCtorEq,Nat.reduceEqDiff,Nat.reduceLT,Nat.reduceLeDiff,Nat.reduceAdd,Nat.reduceSub,Nat.reduceMul,Int.reduceAdd,Int.reduceSub,Int.reduceMul,Int.reduceNeg,Int.reduceLE,Int.reduceLT,Int.reduceEq,Int.reduceToNat]
  (try simp only [ex,reduceIte,reduceCtorEq,Nat.reduceEqDiff,Nat.reduceLT,Nat.reduceLeDiff,Nat.reduceAdd,Nat.reduceSub,Nat.reduceMul,Int.reduceAdd,Int.reduceSub,Int.reduceMul,Int.reduceNeg,Int.reduceLE,Int.reduceLT,Int.reduceEq,Int.reduceToNat]) <;> repeat ((with_reducible refine Req.intro ?_ ?_); (first | omega | (simp <;> omega)); try simp only [ex,reduceIte,reduceCtorEq,Nat.reduceEqDiff,Nat.reduceLT,Nat.reduceLeDiff,Nat.reduceAdd,Nat.reduceSub,Nat.reduceMul,Int.reduceAdd,Int.reduceSub,Int.reduceMul,Int.reduceNeg,Int.reduceLE,Int.reduceLT,Int.reduceEq,Int.reduceToNat])
  refine loopI fun L hL => ?_
  (try simp only [ex,reduceIte,reduceCtorEq,Nat.reduceEqDiff,Nat.reduceLT,Nat.reduceLeDiff,Nat.reduceAdd,Nat.reduceSub,Nat.reduceMul,Int.reduceAdd,Int.reduceSub,Int.reduceMul,Int.reduceNeg,Int.reduceLE,Int.reduceLT,Int.reduceEq,Int.reduceToNat]) <;> repeat ((with_reducible refine Req.intro ?_ ?_); (first | omega | (simp <;> omega)); try simp only [ex,reduceIte,reduceCtorEq,Nat.reduceEqDiff,Nat.reduceLT,Nat.reduceLeDiff,Nat.reduceAdd,Nat.reduceSub,Nat.reduceMul,Int.reduceAdd,Int.reduceSub,Int.reduceMul,Int.reduceNeg,Int.reduceLE,Int.reduceLT,Int.reduceEq,Int.reduceToNat])
  have key : ∀ (m p c : Nat), p + m = l.length → idxZ (l.drop p) p = idxZ l 0 → L (L36_1 (.hs b 3 0 l.length) (.fn 24 []) (.int .i64 l.length) (.int .i64 p) [(b, .rows 3 (l.map rnV))] c) := by
    intro m
    induction m with
    | zero =>
      intro p c hp he
      apply hL
      simp only [L36_1, l36_1, ex,reduceIte,reduceCtorEq,Nat.reduceEqDiff,Nat.reduceLT,Nat.reduceLeDiff,Nat.reduceAdd,Nat.reduceSub,Nat.reduceMul,Int.reduceAdd,Int.reduceSub,Int.reduceMul,Int.reduceNeg,Int.reduceLE,Int.reduceLT,Int.reduceEq,Int.reduceToNat]
      have h1 : decide ((p : Int) < (l.length : Int)) = false := by simp; omega
      rw [List.drop_of_length_le (by omega), idxZ] at he
      rw [← he]
      (try simp only [h1, ex,reduceIte,reduceCtorEq,Nat.reduceEqDiff,Nat.reduceLT,Nat.reduceLeDiff,Nat.reduceAdd,Nat.reduceSub,Nat.reduceMul,Int.reduceAdd,Int.reduceSub,Int.reduceMul,Int.reduceNeg,Int.reduceLE,Int.reduceLT,Int.reduceEq,Int.reduceToNat]) <;> repeat ((with_reducible refine Req.intro ?_ ?_); (first | omega | (simp <;> omega)); try simp only [h1, ex,reduceIte,reduceCtorEq,Nat.reduceEqDiff,Nat.reduceLT,Nat.reduceLeDiff,Nat.reduceAdd,Nat.reduceSub,Nat.reduceMul,Int.reduceAdd,Int.reduceSub,Int.reduceMul,Int.reduceNeg,Int.reduceLE,Int.reduceLT,Int.reduceEq,Int.reduceToNat])
    | succ m ih =>
      intro p c hp he
      apply hL
      simp only [L36_1, l36_1, ex,reduceIte,reduceCtorEq,Nat.reduceEqDiff,Nat.reduceLT,Nat.reduceLeDiff,Nat.reduceAdd,Nat.reduceSub,Nat.reduceMul,Int.reduceAdd,Int.reduceSub,Int.reduceMul,Int.reduceNeg,Int.reduceLE,Int.reduceLT,Int.reduceEq,Int.reduceToNat]
      have h1 : decide ((p : Int) < (l.length : Int)) = true := by simp; omega
      have g1 : l[p]? = some (l[p]'(by omega)) := List.getElem?_eq_getElem _
      rw [List.drop_eq_getElem_cons (by omega), idxZ] at he
      generalize hx : l[p]'(by omega) = r at g1 he
      (try simp only [h1, g1, rnV, ex,reduceIte,reduceCtorEq,Nat.reduceEqDiff,Nat.reduceLT,Nat.reduceLeDiff,Nat.reduceAdd,Nat.reduceSub,Nat.reduceMul,Int.reduceAdd,Int.reduceSub,Int.reduceMul,Int.reduceNeg,Int.reduceLE,Int.reduceLT,Int.reduceEq,Int.reduceToNat]) <;> repeat ((with_reducible refine Req.intro ?_ ?_); (first | omega | (simp <;> omega)); try simp only [h1, g1, rnV, ex,reduceIte,reduceCtorEq,Nat.reduceEqDiff,Nat.reduceLT,Nat.reduceLeDiff,Nat.reduceAdd,Nat.reduceSub,Nat.reduceMul,Int.reduceAdd,Int.reduceSub,Int.reduceMul,Int.reduceNeg,Int.reduceLE,Int.reduceLT,Int.reduceEq,Int.reduceToNat])
      refine CallH.eq (isZ_spec r _ c) ?_
      rcases Nat.eq_zero_or_pos r.N with q | q
      · have h2 : decide ((r.N : Int) = 0) = true := by simp; omega
        rw [if_pos q] at he
        rw [← he]
        (try simp only [h2, ex,reduceIte,reduceCtorEq,Nat.reduceEqDiff,Nat.reduceLT,Nat.reduceLeDiff,Nat.reduceAdd,Nat.reduceSub,Nat.reduceMul,Int.reduceAdd,Int.reduceSub,Int.reduceMul,Int.reduceNeg,Int.reduceLE,Int.reduceLT,Int.reduceEq,Int.reduceToNat]) <;> repeat ((with_reducible refine Req.intro ?_ ?_); (first | omega | (simp <;> omega)); try simp only [h2, ex,reduceIte,reduceCtorEq,Nat.reduceEqDiff,Nat.reduceLT,Nat.reduceLeDiff,Nat.reduceAdd,Nat.reduceSub,Nat.reduceMul,Int.reduceAdd,Int.reduceSub,Int.reduceMul,Int.reduceNeg,Int.reduceLE,Int.reduceLT,Int.reduceEq,Int.reduceToNat])
      · have h2 : decide ((r.N : Int) = 0) = false := by simp; omega
        rw [if_neg (by omega)] at he
        (try simp only [h2, ex,reduceIte,reduceCtorEq,Nat.reduceEqDiff,Nat.reduceLT,Nat.reduceLeDiff,Nat.reduceAdd,Nat.reduceSub,Nat.reduceMul,Int.reduceAdd,Int.reduceSub,Int.reduceMul,Int.reduceNeg,Int.reduceLE,Int.reduceLT,Int.reduceEq,Int.reduceToNat]) <;> repeat ((with_reducible refine Req.intro ?_ ?_); (first | omega | (simp <;> omega)); try simp only [h2, ex,reduceIte,reduceCtorEq,Nat.reduceEqDiff,Nat.reduceLT,Nat.reduceLeDiff,Nat.reduceAdd,Nat.reduceSub,Nat.reduceMul,Int.reduceAdd,Int.reduceSub,Int.reduceMul,Int.reduceNeg,Int.reduceLE,Int.reduceLT,Int.reduceEq,Int.reduceToNat])
        exact ih (p + 1) _ (by omega) he
  exact key l.length 0 n (Nat.zero_add _) rfl

def nz (r : Rn) : Bool := decide (r.N ≠ 0)
theorem idxZ_spec : ∀ (l : List Rn) (p : Nat), (idxZ l p = -1 ∧ l.filter nz = l) ∨ ∃ k, k < l.length ∧ idxZ l p = ((p + k : Nat) : Int) ∧ (l.take k).filter nz = l.take k ∧ (l.take (k + 1)).filter nz = l.take k
  | [], p => .inl ⟨rfl, rfl⟩
  | r :: l, p => by
    rcases Nat.eq_zero_or_pos r.N with c | c
    · right
      exact ⟨0, by simp, by simp [idxZ, c], by simp, by simp [nz, c]⟩
    · have hn : nz r = true := by simp [nz]; omega
      rcases idxZ_spec l (p + 1) with ⟨h1, h2⟩ | ⟨k, h1, h2, h3, h4⟩
      · left
        exact ⟨by rw [idxZ, if_neg (by omega), h1], by rw [List.filter_cons, if_pos hn, h2]⟩
      · right
        refine ⟨k + 1, by simp; omega, ?_, ?_, ?_⟩
        · rw [idxZ, if_neg (by omega), h2]; congr 1; omega
        · simp [List.filter_cons, hn, h3]
        · simp only [List.take_succ_cons, List.filter_cons, hn, if_true, h4]

/-- Runs without lines are dropped. -/
theorem all_rnV : ∀ l : List Rn, (l.map rnV).all noH2 = true
  | [] => rfl
  | r :: l => by simp only [List.map_cons, List.all_cons, all_rnV l, Bool.and_true]; rfl
theorem all_parts (A B : List Rn) (m : Nat) (z : V) (hz : noH2 z = true) : ((A.map rnV ++ List.replicate m z) ++ B.map rnV).all noH2 = true := by
  rw [List.all_append, List.all_append, Bool.and_eq_true, Bool.and_eq_true]
  refine ⟨⟨all_rnV A, List.all_eq_true.2 fun x hx => ?_⟩, all_rnV B⟩
  rw [(List.mem_replicate.1 hx).2]; exact hz
theorem deleteZ_spec (b n : Nat) (l : List Rn) (hl : l.length ≤ 1000000) :
    Run tab 22 0 [.hs b 3 0 l.length, .fn 24 []] (rH b (l.map rnV)) n (fun x h' n' => x = .hs b 3 0 (l.filter nz).length ∧ ∃ L, h' = rH b L ∧ (l.filter nz).length ≤ L.length ∧ L.take (l.filter nz).length = (l.filter nz).map rnV ∧ L.all noH2 = true) := by
  rcases idxZ_spec l 0 with c | ⟨k, k1, k2, k3, k4⟩
  · have c1 := c.1
    have c2 := c.2
    refine enter (F := f22) rfl rfl ?_
    simp only [f22, rH, ex,reduceIte,reduceCtorEq,Nat.reduceEqDiff,Nat.reduceLT,Nat.reduceLeDiff,Nat.reduceAdd,Nat.reduceSub,Nat.reduceMul,Int.reduceAdd,Int.reduceSub,Int.reduceMul,Int.reduceNeg,Int.reduceLE,Int.reduceLT,Int.reduceEq,Int.reduceToNat]
    (try simp only [ex,reduceIte,reduceCtorEq,Nat.reduceEqDiff,Nat.reduceLT,Nat.reduceLeDiff,Nat.reduceAdd,Nat.reduceSub,Nat.reduceMul,Int.reduceAdd,Int.reduceSub,Int.reduceMul,Int.reduceNeg,Int.reduceLE,Int.reduceLT,Int.reduceEq,Int.reduceToNat]) <;> repeat ((with_reducible refine Req.intro ?_ ?_); (first | omega | (simp <;> omega)); try simp only [ex,reduceIte,reduceCtorEq,Nat.reduceEqDiff,Nat.reduceLT,Nat.reduceLeDiff,Nat.reduceAdd,Nat.reduceSub,Nat.reduceMul,Int.reduceAdd,Int.reduceSub,Int.reduceMul,Int.reduceNeg,Int.reduceLE,Int.reduceLT,Int.reduceEq,Int.reduceToNat])
    refine CallH.any (indexZ_spec b n l hl) fun r h' m hr => ?_
    have hr1 := hr.1
    have hr2 := hr.2
    subst hr1
    subst hr2
    rw [c1, c2]
    (try simp only [rH, ex,reduceIte,reduceCtorEq,Nat.reduceEqDiff,Nat.reduceLT,Nat.reduceLeDiff,Nat.reduceAdd,Nat.reduceSub,Nat.reduceMul,Int.reduceAdd,Int.reduceSub,Int.reduceMul,Int.reduceNeg,Int.reduceLE,Int.reduceLT,Int.reduceEq,Int.reduceToNat]) <;> repeat ((with_reducible refine Req.intro ?_ ?_); (first | omega | (simp <;> omega)); try simp only [rH, ex,reduceIte,reduceCtorEq,Nat.reduceEqDiff,Nat.reduceLT,Nat.reduceLeDiff,Nat.reduceAdd,Nat.reduceSub,Nat.reduceMul,Int.reduceAdd,Int.reduceSub,Int.reduceMul,Int.reduceNeg,Int.reduceLE,Int.reduceLT,Int.reduceEq,Int.reduceToNat])
    exact ⟨_, rfl, by simp, by rw [← List.length_map (f := rnV), List.take_length], all_rnV l⟩
  · refine enter (F := f22) rfl rfl ?_
    simp only [f22, rH, ex,reduceIte,reduceCtorEq,Nat.reduceEqDiff,Nat.reduceLT,Nat.reduceLeDiff,Nat.reduceAdd,Nat.reduceSub,Nat.reduceMul,Int.reduceAdd,Int.reduceSub,Int.reduceMul,Int.reduceNeg,Int.reduceLE,Int.reduceLT,Int.reduceEq,Int.reduceToNat]
    (try simp only [ex,reduceIte,reduceCtorEq,Nat.reduceEqDiff,Nat.reduceLT,Nat.reduceLeDiff,Nat.reduceAdd,Nat.reduceSub,Nat.reduceMul,Int.reduceAdd,Int.reduceSub,Int.reduceMul,Int.reduceNeg,Int.reduceLE,Int.reduceLT,Int.reduceEq,Int.reduceToNat]) <;> repeat ((with_reducible refine Req.intro ?_ ?_); (first | omega | (simp <;> omega)); try simp only [ex,reduceIte,reduceCtorEq,Nat.reduceEqDiff,Nat.reduceLT,Nat.reduceLeDiff,Nat.reduceAdd,Nat.reduceSub,Nat.reduceMul,Int.reduceAdd,Int.reduceSub,Int.reduceMul,Int.reduceNeg,Int.reduceLE,Int.reduceLT,Int.reduceEq,Int.reduceToNat])
    refine CallH.any (indexZ_spec b n l hl) fun r h' m hr => ?_
    have hr1 := hr.1
    have hr2 := hr.2
    subst hr1
    subst hr2
    rw [k2, Nat.zero_add]
    have h1 : decide ((k : Int) = -1) = false := by simp <;> omega
    (try simp only [h1, rH, ex,reduceIte,reduceCtorEq,Nat.reduceEqDiff,Nat.reduceLT,Nat.reduceLeDiff,Nat.reduceAdd,Nat.reduceSub,Nat.reduceMul,Int.reduceAdd,Int.reduceSub,Int.reduceMul,Int.reduceNeg,Int.reduceLE,Int.reduceLT,Int.reduceEq,Int.reduceToNat]) <;> repeat ((with_reducible refine Req.intro ?_ ?_); (first | omega | (simp <;> omega)); try simp only [h1, rH, ex,reduceIte,reduceCtorEq,Nat.reduceEqDiff,Nat.reduceLT,Nat.reduceLeDiff,Nat.reduceAdd,Nat.reduceSub,Nat.reduceMul,Int.reduceAdd,Int.reduceSub,Int.reduceMul,Int.reduceNeg,Int.reduceLE,Int.reduceLT,Int.reduceEq,Int.reduceToNat])
    refine loopI fun L hL => ?_
    (try simp only [ex,reduceIte,reduceCtorEq,Nat.reduceEqDiff,Nat.reduceLT,Nat.reduceLeDiff,Nat.reduceAdd,Nat.reduceSub,Nat.reduceMul,Int.reduceAdd,Int.reduceSub,Int.reduceMul,Int.reduceNeg,Int.reduceLE,Int.reduceLT,Int.reduceEq,Int.reduceToNat]) <;> repeat ((with_reducible refine Req.intro ?_ ?_); (first | omega | (simp <;> omega)); try simp only [ex,reduceIte,reduceCtorEq,Nat.reduceEqDiff,Nat.reduceLT,Nat.reduceLeDiff,Nat.reduceAdd,Nat.reduceSub,Nat.reduceMul,Int.reduceAdd,Int.reduceSub,Int.reduceMul,Int.reduceNeg,Int.reduceLE,Int.reduceLT,Int.reduceEq,Int.reduceToNat])
    have key : ∀ (m j i c : Nat) (Q : List Rn), j + m = l.length → i = ((l.take j).filter nz).length → i < j → Q.length = l.length → Q.take i = (l.take j).filter nz → Q.drop j = l.drop j → L (L22_1 (.hs b 3 0 l.length) (.fn 24 []) (.int .i64 i) (.int .i64 j) [(b, .rows 3 (Q.map rnV))] c) := by
      intro m
      induction m with
      | zero =>
        intro j i c Q hj hi hij hQ h2 h3
        apply hL
        simp only [L22_1, l22_1, ex,reduceIte,reduceCtorEq,Nat.reduceEqDiff,Nat.reduceLT,Nat.reduceLeDiff,Nat.reduceAdd,Nat.reduceSub,Nat.reduceMul,Int.reduceAdd,Int.reduceSub,Int.reduceMul,Int.reduceNeg,Int.reduceLE,Int.reduceLT,Int.reduceEq,Int.reduceToNat]
        have h1 : decide ((j : Int) < (l.length : Int)) = false := by simp; omega
        rw [List.take_of_length_le (show l.length ≤ j by omega)] at hi h2
        (try simp only [h1, rH, Nat.lt_irrefl, ex,reduceIte,reduceCtorEq,Nat.reduceEqDiff,Nat.reduceLT,Nat.reduceLeDiff,Nat.reduceAdd,Nat.reduceSub,Nat.reduceMul,Int.reduceAdd,Int.reduceSub,Int.reduceMul,Int.reduceNeg,Int.reduceLE,Int.reduceLT,Int.reduceEq,Int.reduceToNat]) <;> repeat ((with_reducible refine Req.intro ?_ ?_); (first | omega | (simp <;> omega)); try simp only [h1, rH, Nat.lt_irrefl, ex,reduceIte,reduceCtorEq,Nat.reduceEqDiff,Nat.reduceLT,Nat.reduceLeDiff,Nat.reduceAdd,Nat.reduceSub,Nat.reduceMul,Int.reduceAdd,Int.reduceSub,Int.reduceMul,Int.reduceNeg,Int.reduceLE,Int.reduceLT,Int.reduceEq,Int.reduceToNat])
        rw [← hi]
        refine ⟨rfl, _, rfl, ?_, ?_, all_parts _ _ _ _ rfl⟩
        · simp; omega
        · rw [List.take_append_of_le_length (by simp; omega), List.take_append_of_le_length (by simp; omega), ← List.map_take, List.take_take, Nat.min_self, h2]
      | succ m ih =>
        intro j i c Q hj hi hij hQ h2 h3
        apply hL
        simp only [L22_1, l22_1, ex,reduceIte,reduceCtorEq,Nat.reduceEqDiff,Nat.reduceLT,Nat.reduceLeDiff,Nat.reduceAdd,Nat.reduceSub,Nat.reduceMul,Int.reduceAdd,Int.reduceSub,Int.reduceMul,Int.reduceNeg,Int.reduceLE,Int.reduceLT,Int.reduceEq,Int.reduceToNat]
        have h1 : decide ((j : Int) < (l.length : Int)) = true := by simp; omega
        have g0 : l[j]? = some (l[j]'(by omega)) := List.getElem?_eq_getElem _
        have g1 : Q[j]? = some (l[j]'(by omega)) := by
          have : (Q.drop j)[0]? = (l.drop j)[0]? := by rw [h3]
          rw [List.getElem?_drop, List.getElem?_drop, Nat.add_zero, g0] at this
          exact this
        have h3' : Q.drop (j + 1) = l.drop (j + 1) := by rw [← List.drop_drop, h3, List.drop_drop]
        have g2 : Q[i]? = some (Q[i]'(by omega)) := List.getElem?_eq_getElem _
        generalize hv : l[j]'(by omega) = v at g0 g1
        generalize hu : Q[i]'(by omega) = u at g2
        have ht : (l.take (j + 1)).filter nz = (l.take j).filter nz ++ if nz v = true then [v] else [] := by
          rw [List.take_add_one, g0, List.filter_append]
          simp only [Option.toList_some, List.filter_cons, List.filter_nil]
        have hset : (Q.map rnV).set i (V.agg [.int .i64 v.A, .int .i64 v.B, .int .i64 v.N]) = (Q.set i v).map rnV := by rw [List.map_set]; rfl
        (try simp only [h1, g1, rnV, ex,reduceIte,reduceCtorEq,Nat.reduceEqDiff,Nat.reduceLT,Nat.reduceLeDiff,Nat.reduceAdd,Nat.reduceSub,Nat.reduceMul,Int.reduceAdd,Int.reduceSub,Int.reduceMul,Int.reduceNeg,Int.reduceLE,Int.reduceLT,Int.reduceEq,Int.reduceToNat]) <;> repeat ((with_reducible refine Req.intro ?_ ?_); (first | omega | (simp <;> omega)); try simp only [h1, g1, rnV, ex,reduceIte,reduceCtorEq,Nat.reduceEqDiff,Nat.reduceLT,Nat.reduceLeDiff,Nat.reduceAdd,Nat.reduceSub,Nat.reduceMul,Int.reduceAdd,Int.reduceSub,Int.reduceMul,Int.reduceNeg,Int.reduceLE,Int.reduceLT,Int.reduceEq,Int.reduceToNat])
        refine CallH.eq (isZ_spec v _ _) ?_
        rcases Nat.eq_zero_or_pos v.N with q | q
        · have e2 : decide ((v.N : Int) = 0) = true := by simp; omega
          rw [if_neg (by simp [nz, q]), List.append_nil] at ht
          (try simp only [e2, ex,reduceIte,reduceCtorEq,Nat.reduceEqDiff,Nat.reduceLT,Nat.reduceLeDiff,Nat.reduceAdd,Nat.reduceSub,Nat.reduceMul,Int.reduceAdd,Int.reduceSub,Int.reduceMul,Int.reduceNeg,Int.reduceLE,Int.reduceLT,Int.reduceEq,Int.reduceToNat]) <;> repeat ((with_reducible refine Req.intro ?_ ?_); (first | omega | (simp <;> omega)); try simp only [e2, ex,reduceIte,reduceCtorEq,Nat.reduceEqDiff,Nat.reduceLT,Nat.reduceLeDiff,Nat.reduceAdd,Nat.reduceSub,Nat.reduceMul,Int.reduceAdd,Int.reduceSub,Int.reduceMul,Int.reduceNeg,Int.reduceLE,Int.reduceLT,Int.reduceEq,Int.reduceToNat])
          exact ih (j + 1) i _ Q (by omega) (by rw [ht]; exact hi) (by omega) hQ (by rw [ht]; exact h2) h3'
        · have e2 : decide ((v.N : Int) = 0) = false := by simp; omega
          rw [if_pos (by simp [nz]; omega)] at ht
          have h9 := ih (j + 1) (i + 1) (c + 1 + 1) (Q.set i v) (by omega) (by rw [ht, List.length_append]; simp; omega) (by omega) (by simp [hQ]) (by
            rw [ht, ← h2, List.take_add_one, List.getElem?_set_self (by omega), List.take_set_of_le (Nat.le_refl _)]; rfl) (by
            rw [List.drop_set_of_lt (by omega)]; exact h3')
          (try simp only [e2, g2, hset, rnV, Nat.lt_irrefl, ex,reduceIte,reduceCtorEq,Nat.reduceEqDiff,Nat.reduceLT,Nat.reduceLeDiff,Nat.reduceAdd,Nat.reduceSub,Nat.reduceMul,Int.reduceAdd,Int.reduceSub,Int.reduceMul,Int.reduceNeg,Int.reduceLE,Int.reduceLT,Int.reduceEq,Int.reduceToNat]) <;> repeat ((with_reducible refine Req.intro ?_ ?_); (first | omega | (simp <;> omega)); try simp only [e2, g2, hset, rnV, Nat.lt_irrefl, ex,reduceIte,reduceCtorEq,Nat.reduceEqDiff,Nat.reduceLT,Nat.reduceLeDiff,Nat.reduceAdd,Nat.reduceSub,Nat.reduceMul,Int.reduceAdd,Int.reduceSub,Int.reduceMul,Int.reduceNeg,Int.reduceLE,Int.reduceLT,Int.reduceEq,Int.reduceToNat])
          rw [show c + 1 + (c + 1 + 1 - (c + 1)) = c + 1 + 1 by omega]
          exact h9
    exact key (l.length - (k + 1)) (k + 1) k _ l (by omega) (by rw [k4, List.length_take]; omega) (by omega) rfl (by rw [k4]) rfl
end Go.Proofs.Ytmmcepbcjlopdaa.E.Hs
