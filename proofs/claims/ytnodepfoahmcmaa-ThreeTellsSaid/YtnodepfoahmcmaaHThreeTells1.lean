/- What the functions compute, and the law ThreeTells in plain lists: part 1. Conditions: none. -/
import Derived.KernelRfl
import Derived.Test.YtnodepfoahmcmaaFThreeTells
/- Runs that two lists have in common: what the anchor is. Plain lists. Conditions: none. -/
namespace Go.Proofs.Ytnodepfoahmcmaa.E.Hs
set_option linter.unusedVariables false

abbrev S := List UInt8
/-- How long two lists are the same at their beginning. -/
def lcp : List S → List S → Nat
  | x :: a, y :: b => if x = y then lcp a b + 1 else 0
  | _, _ => 0
theorem lcp_le : ∀ a b : List S, lcp a b ≤ a.length ∧ lcp a b ≤ b.length
  | [], _ => by simp [lcp]
  | _ :: _, [] => by simp [lcp]
  | x :: a, y :: b => by
    have := lcp_le a b
    simp only [lcp, List.length_cons]
    split <;> omega
theorem lcp_lt : ∀ (a b : List S) (n : Nat), n < lcp a b → ∃ s, a[n]? = some s ∧ b[n]? = some s
  | [], _, n, h => by simp [lcp] at h
  | _ :: _, [], n, h => by simp [lcp] at h
  | x :: a, y :: b, n, h => by
    simp only [lcp] at h
    split at h
    · rename_i e
      subst e
      cases n with
      | zero => exact ⟨x, rfl, rfl⟩
      | succ n => simpa using lcp_lt a b n (by omega)
    · omega
theorem lcp_end : ∀ (a b : List S) (s t : S), a[lcp a b]? = some s → b[lcp a b]? = some t → s ≠ t
  | [], _, s, t, h, _ => by simp at h
  | _ :: _, [], s, t, _, h => by simp at h
  | x :: a, y :: b, s, t, h1, h2 => by
    simp only [lcp] at h1 h2
    split at h1
    · rename_i e
      rw [if_pos e] at h2
      exact lcp_end a b s t (by simpa using h1) (by simpa using h2)
    · rename_i e
      rw [if_neg e] at h2
      simp at h1 h2
      subst h1; subst h2
      exact e
/-- So long as the lists go on alike, and no longer. -/
theorem lcp_is (a b : List S) (n : Nat) (h1 : ∀ m, m < n → ∃ s, a[m]? = some s ∧ b[m]? = some s) (h2 : ∀ s, a[n]? = some s → b[n]? = some s → False) : lcp a b = n := by
  rcases Nat.lt_trichotomy (lcp a b) n with h | h | h
  · obtain ⟨s, e1, e2⟩ := h1 _ h
    exact absurd rfl (lcp_end a b s s e1 e2)
  · exact h
  · obtain ⟨s, e1, e2⟩ := lcp_lt a b n h
    exact (h2 s e1 e2).elim

structure Rn where
  A : Nat
  B : Nat
  N : Nat deriving DecidableEq
/-- Back to where a run begins. -/
def back (a b : List S) : Nat → Nat → Nat × Nat
  | i + 1, k + 1 => if a[i]? = b[k]? then back a b i k else (i + 1, k + 1)
  | i, k => (i, k)
def runOf (a b : List S) (i k : Nat) : Rn := ⟨(back a b i k).1, (back a b i k).2, lcp (a.drop (back a b i k).1) (b.drop (back a b i k).2)⟩
/-- How often the rarest line of a run stands in the list. -/
def rare (m : Nat) (a : List S) (r : Rn) : Nat := ((a.drop r.A).take r.N).foldl (fun m s => min m (a.count s)) m
/-- The rarer run; the longer; the one further ahead. -/
def bet (m : Nat) (a : List S) (x y : Rn) : Bool :=
  if rare m a x ≠ rare m a y then decide (rare m a x < rare m a y) else if x.N ≠ y.N then decide (y.N < x.N) else if x.A ≠ y.A then decide (x.A < y.A) else decide (x.B < y.B)

theorem back_le (a b : List S) : ∀ i k, (back a b i k).1 ≤ i ∧ (back a b i k).2 ≤ k ∧ (back a b i k).1 + k = (back a b i k).2 + i
  | 0, k => by simp [back]
  | i + 1, 0 => by simp [back]
  | i + 1, k + 1 => by
    have := back_le a b i k
    simp only [back]
    split
    · omega
    · simp; omega

/-- A place where a run begins. -/
def Start (a b : List S) (i k : Nat) : Prop := (∃ s, a[i]? = some s ∧ b[k]? = some s) ∧ ¬ (0 < i ∧ 0 < k ∧ a[i - 1]? = b[k - 1]?)
/-- The runs that may be the anchor. -/
def Cand (a b : List S) (r : Rn) : Prop := Start a b r.A r.B ∧ r.N = lcp (a.drop r.A) (b.drop r.B) ∧ rare 65 a r ≤ 64

theorem back_start (a b : List S) : ∀ i k, (∃ s, a[i]? = some s ∧ b[k]? = some s) → Start a b (back a b i k).1 (back a b i k).2
  | 0, k, h => by simp only [back]; exact ⟨h, by simp⟩
  | i + 1, 0, h => by simp only [back]; exact ⟨h, by simp⟩
  | i + 1, k + 1, h => by
    simp only [back]
    split
    · rename_i e
      refine back_start a b i k ?_
      obtain ⟨s, h1, h2⟩ := h
      have : i < a.length := by have := (List.getElem?_eq_some_iff.1 h1).1; omega
      exact ⟨a[i], List.getElem?_eq_getElem this, by rw [← e]; exact List.getElem?_eq_getElem this⟩
    · rename_i e
      exact ⟨h, by simpa using e⟩
theorem back_of_start (a b : List S) (i k : Nat) (h : Start a b i k) : back a b i k = (i, k) := by
  match i, k with
  | 0, k => rfl
  | i + 1, 0 => rfl
  | i + 1, k + 1 =>
    simp only [back]
    rw [if_neg]
    exact fun e => h.2 ⟨by omega, by omega, by simpa using e⟩

theorem lcp_pos {a b : List S} {i k : Nat} (h : ∃ s, a[i]? = some s ∧ b[k]? = some s) : 0 < lcp (a.drop i) (b.drop k) := by
  obtain ⟨s, h1, h2⟩ := h
  obtain ⟨l1, e1⟩ := List.getElem?_eq_some_iff.1 h1
  obtain ⟨l2, e2⟩ := List.getElem?_eq_some_iff.1 h2
  rw [List.drop_eq_getElem_cons l1, List.drop_eq_getElem_cons l2, e1, e2]
  simp [lcp]

theorem fold_min_le (f : S → Nat) : ∀ (l : List S) (m : Nat), l.foldl (fun m s => min m (f s)) m ≤ m ∧ ∀ s ∈ l, l.foldl (fun m s => min m (f s)) m ≤ f s
  | [], m => by simp
  | x :: l, m => by
    obtain ⟨h1, h2⟩ := fold_min_le f l (min m (f x))
    simp only [List.foldl_cons]
    refine ⟨by omega, fun s hs => ?_⟩
    rcases List.mem_cons.1 hs with rfl | hs
    · omega
    · exact h2 s hs
theorem fold_min_is (f : S → Nat) : ∀ (l : List S) (m : Nat), l.foldl (fun m s => min m (f s)) m = m ∨ ∃ s ∈ l, l.foldl (fun m s => min m (f s)) m = f s
  | [], m => by simp
  | x :: l, m => by
    simp only [List.foldl_cons]
    rcases fold_min_is f l (min m (f x)) with h | ⟨s, hs, h⟩
    · rw [h]
      by_cases c : m ≤ f x
      · left; omega
      · right; exact ⟨x, by simp, by omega⟩
    · right; exact ⟨s, by simp [hs], h⟩
/-- The reference's start does not matter. -/
theorem rare_len (a : List S) (r : Rn) (h0 : 0 < r.N) (h1 : r.A + r.N ≤ a.length) : rare 65 a r = min 65 (rare a.length a r) := by
  unfold rare
  have hl : 0 < ((a.drop r.A).take r.N).length := by simp; omega
  obtain ⟨x, l, hx⟩ : ∃ x l, (a.drop r.A).take r.N = x :: l := by
    cases h : (a.drop r.A).take r.N with
    | nil => rw [h] at hl; simp at hl
    | cons x l => exact ⟨x, l, rfl⟩
  rw [hx]
  have g1 := fold_min_le a.count (x :: l) 65
  have g2 := fold_min_is a.count (x :: l) 65
  have g3 := fold_min_le a.count (x :: l) a.length
  have g4 := fold_min_is a.count (x :: l) a.length
  have hc : ∀ s, a.count s ≤ a.length := fun s => List.count_le_length
  have key : (∀ s ∈ x :: l, (x :: l).foldl (fun m s => min m (a.count s)) a.length ≤ a.count s) ∧ ∃ s ∈ x :: l, (x :: l).foldl (fun m s => min m (a.count s)) a.length = a.count s := by
    refine ⟨g3.2, ?_⟩
    rcases g4 with h | h
    · exact ⟨x, by simp, by have := g3.2 x (by simp); have := hc x; omega⟩
    · exact h
  obtain ⟨k1, s, hs, k2⟩ := key
  generalize (x :: l).foldl (fun m s => min m (a.count s)) a.length = L at *
  generalize (x :: l).foldl (fun m s => min m (a.count s)) 65 = M at *
  have := g1.2 s hs
  rcases g2 with h | ⟨t, ht, h⟩
  · omega
  · have := k1 t ht; omega

/-- The first among the best: one that no other beats. -/
def IsAnchor (a b : List S) (o : Option Rn) : Prop := match o with
  | some r => Cand a b r ∧ ∀ y, Cand a b y → y = r ∨ bet 65 a r y = true
  | none => ∀ y, ¬ Cand a b y
theorem bet_asymm (m : Nat) (a : List S) (x y : Rn) (h1 : bet m a x y = true) (h2 : bet m a y x = true) : False := by
  unfold bet at h1 h2
  generalize rare m a x = p at *
  generalize rare m a y = q at *
  simp only [ne_eq, ite_not] at h1 h2
  by_cases e1 : p = q
  · subst e1
    simp only [if_true] at h1 h2
    by_cases e2 : x.N = y.N
    · rw [if_pos e2] at h1; rw [if_pos e2.symm] at h2
      by_cases e3 : x.A = y.A
      · rw [if_pos e3] at h1; rw [if_pos e3.symm] at h2
        simp at h1 h2; omega
      · rw [if_neg e3] at h1; rw [if_neg fun e => e3 e.symm] at h2
        simp at h1 h2; omega
    · rw [if_neg e2] at h1; rw [if_neg fun e => e2 e.symm] at h2
      simp at h1 h2; omega
  · rw [if_neg e1] at h1; rw [if_neg fun e => e1 e.symm] at h2
    simp at h1 h2; omega
theorem IsAnchor.uniq {a b : List S} {o o' : Option Rn} (h : IsAnchor a b o) (h' : IsAnchor a b o') : o = o' := by
  cases o with
  | none =>
    cases o' with
    | none => rfl
    | some r => exact (h r h'.1).elim
  | some r =>
    cases o' with
    | none => exact (h' r h.1).elim
    | some r' =>
      rcases h.2 r' h'.1 with e | e
      · rw [e]
      · rcases h'.2 r h.1 with e' | e'
        · rw [e']
        · exact (bet_asymm 65 a r r' e e').elim

end Go.Proofs.Ytnodepfoahmcmaa.E.Hs

/- Small functions of chapter 12: what they compute. Conditions: none. -/
namespace Go.Proofs.Ytnodepfoahmcmaa.E.Hs
set_option linter.unusedVariables false
set_option linter.unusedSimpArgs false
set_option maxHeartbeats 20000000

/-- What several cases come to is proved once. -/
structure Hold (P : Prop) : Prop where
  out : P
theorem shareL {P Q : Prop} (h : Hold P → Q) (k : P) : Q := h ⟨k⟩
def small (a : List S) : Bool := decide (a.length ≤ 60) && a.all fun s => decide (s.length ≤ 200)

theorem small_spec (o : Bool) (a : List S) (hl : a.length ≤ 17592186044416) : Run tab 8 0 [.sl o 1 (a.map .str)] [] 0 (fun r _ _ => r = .bool (small a)) := by
  refine enter (F := f8) rfl rfl ?_
  simp only [f8, ex,reduceIte,reduceCtorEq,Nat.reduceEqDiff,Nat.reduceLT,Nat.reduceLeDiff,Nat.reduceAdd,Nat.reduceSub,Nat.reduceMul,Int.reduceAdd,Int.reduceSub,Int.reduceMul,Int.reduceNeg,Int.reduceLE,Int.reduceLT,Int.reduceEq,Int.reduceToNat]
  refine ifB.intro (fun h => ?_) (fun h => ?_)
  · (try simp only [ex,reduceIte,reduceCtorEq,Nat.reduceEqDiff,Nat.reduceLT,Nat.reduceLeDiff,Nat.reduceAdd,Nat.reduceSub,Nat.reduceMul,Int.reduceAdd,Int.reduceSub,Int.reduceMul,Int.reduceNeg,Int.reduceLE,Int.reduceLT,Int.reduceEq,Int.reduceToNat]) <;> repeat ((with_reducible refine Req.intro ?_ ?_); (first | omega | (simp <;> omega)); try simp only [ex,reduceIte,reduceCtorEq,Nat.reduceEqDiff,Nat.reduceLT,Nat.reduceLeDiff,Nat.reduceAdd,Nat.reduceSub,Nat.reduceMul,Int.reduceAdd,Int.reduceSub,Int.reduceMul,Int.reduceNeg,Int.reduceLE,Int.reduceLT,Int.reduceEq,Int.reduceToNat])
    simp at h
    simp [small]; omega
  · simp at h
    (try simp only [ex,reduceIte,reduceCtorEq,Nat.reduceEqDiff,Nat.reduceLT,Nat.reduceLeDiff,Nat.reduceAdd,Nat.reduceSub,Nat.reduceMul,Int.reduceAdd,Int.reduceSub,Int.reduceMul,Int.reduceNeg,Int.reduceLE,Int.reduceLT,Int.reduceEq,Int.reduceToNat]) <;> repeat ((with_reducible refine Req.intro ?_ ?_); (first | omega | (simp <;> omega)); try simp only [ex,reduceIte,reduceCtorEq,Nat.reduceEqDiff,Nat.reduceLT,Nat.reduceLeDiff,Nat.reduceAdd,Nat.reduceSub,Nat.reduceMul,Int.reduceAdd,Int.reduceSub,Int.reduceMul,Int.reduceNeg,Int.reduceLE,Int.reduceLT,Int.reduceEq,Int.reduceToNat])
    refine loopI fun L hL => ?_
    simp only [ex,reduceIte,reduceCtorEq,Nat.reduceEqDiff,Nat.reduceLT,Nat.reduceLeDiff,Nat.reduceAdd,Nat.reduceSub,Nat.reduceMul,Int.reduceAdd,Int.reduceSub,Int.reduceMul,Int.reduceNeg,Int.reduceLE,Int.reduceLT,Int.reduceEq,Int.reduceToNat]
    have key : ∀ m i : Nat, i + m = a.length → (a.take i).all (fun s => decide (s.length ≤ 200)) = true → L (L8_1 (.sl o 1 (a.map .str)) (.int .i64 i) [] 0) := by
      intro m
      induction m with
      | zero =>
        intro i hi ha
        apply hL
        simp only [L8_1, l8_1, ex,reduceIte,reduceCtorEq,Nat.reduceEqDiff,Nat.reduceLT,Nat.reduceLeDiff,Nat.reduceAdd,Nat.reduceSub,Nat.reduceMul,Int.reduceAdd,Int.reduceSub,Int.reduceMul,Int.reduceNeg,Int.reduceLE,Int.reduceLT,Int.reduceEq,Int.reduceToNat]
        refine ifB.no (by simp; omega) ?_
        (try simp only [ex,reduceIte,reduceCtorEq,Nat.reduceEqDiff,Nat.reduceLT,Nat.reduceLeDiff,Nat.reduceAdd,Nat.reduceSub,Nat.reduceMul,Int.reduceAdd,Int.reduceSub,Int.reduceMul,Int.reduceNeg,Int.reduceLE,Int.reduceLT,Int.reduceEq,Int.reduceToNat]) <;> repeat ((with_reducible refine Req.intro ?_ ?_); (first | omega | (simp <;> omega)); try simp only [ex,reduceIte,reduceCtorEq,Nat.reduceEqDiff,Nat.reduceLT,Nat.reduceLeDiff,Nat.reduceAdd,Nat.reduceSub,Nat.reduceMul,Int.reduceAdd,Int.reduceSub,Int.reduceMul,Int.reduceNeg,Int.reduceLE,Int.reduceLT,Int.reduceEq,Int.reduceToNat])
        rw [List.take_of_length_le (by omega)] at ha
        simp [small, ha]; omega
      | succ m ih =>
        intro i hi ha
        apply hL
        simp only [L8_1, l8_1, ex,reduceIte,reduceCtorEq,Nat.reduceEqDiff,Nat.reduceLT,Nat.reduceLeDiff,Nat.reduceAdd,Nat.reduceSub,Nat.reduceMul,Int.reduceAdd,Int.reduceSub,Int.reduceMul,Int.reduceNeg,Int.reduceLE,Int.reduceLT,Int.reduceEq,Int.reduceToNat]
        refine ifB.yes (by simp; omega) ?_
        (try simp only [ex,reduceIte,reduceCtorEq,Nat.reduceEqDiff,Nat.reduceLT,Nat.reduceLeDiff,Nat.reduceAdd,Nat.reduceSub,Nat.reduceMul,Int.reduceAdd,Int.reduceSub,Int.reduceMul,Int.reduceNeg,Int.reduceLE,Int.reduceLT,Int.reduceEq,Int.reduceToNat]) <;> repeat ((with_reducible refine Req.intro ?_ ?_); (first | omega | (simp <;> omega)); try simp only [ex,reduceIte,reduceCtorEq,Nat.reduceEqDiff,Nat.reduceLT,Nat.reduceLeDiff,Nat.reduceAdd,Nat.reduceSub,Nat.reduceMul,Int.reduceAdd,Int.reduceSub,Int.reduceMul,Int.reduceNeg,Int.reduceLE,Int.reduceLT,Int.reduceEq,Int.reduceToNat])
        refine WK.idx (by omega) fun x hx => ?_
        (try simp only [ex,reduceIte,reduceCtorEq,Nat.reduceEqDiff,Nat.reduceLT,Nat.reduceLeDiff,Nat.reduceAdd,Nat.reduceSub,Nat.reduceMul,Int.reduceAdd,Int.reduceSub,Int.reduceMul,Int.reduceNeg,Int.reduceLE,Int.reduceLT,Int.reduceEq,Int.reduceToNat]) <;> repeat ((with_reducible refine Req.intro ?_ ?_); (first | omega | (simp <;> omega)); try simp only [ex,reduceIte,reduceCtorEq,Nat.reduceEqDiff,Nat.reduceLT,Nat.reduceLeDiff,Nat.reduceAdd,Nat.reduceSub,Nat.reduceMul,Int.reduceAdd,Int.reduceSub,Int.reduceMul,Int.reduceNeg,Int.reduceLE,Int.reduceLT,Int.reduceEq,Int.reduceToNat])
        refine ifB.intro (fun h => ?_) (fun h => ?_)
        · (try simp only [ex,reduceIte,reduceCtorEq,Nat.reduceEqDiff,Nat.reduceLT,Nat.reduceLeDiff,Nat.reduceAdd,Nat.reduceSub,Nat.reduceMul,Int.reduceAdd,Int.reduceSub,Int.reduceMul,Int.reduceNeg,Int.reduceLE,Int.reduceLT,Int.reduceEq,Int.reduceToNat]) <;> repeat ((with_reducible refine Req.intro ?_ ?_); (first | omega | (simp <;> omega)); try simp only [ex,reduceIte,reduceCtorEq,Nat.reduceEqDiff,Nat.reduceLT,Nat.reduceLeDiff,Nat.reduceAdd,Nat.reduceSub,Nat.reduceMul,Int.reduceAdd,Int.reduceSub,Int.reduceMul,Int.reduceNeg,Int.reduceLE,Int.reduceLT,Int.reduceEq,Int.reduceToNat])
          have hm : x ∈ a := List.mem_of_getElem? hx
          have : a.all (fun s => decide (s.length ≤ 200)) = false := by
            rw [List.all_eq_false]
            exact ⟨x, hm, by simp at h ⊢; omega⟩
          simp [small, this]
        · (try simp only [ex,reduceIte,reduceCtorEq,Nat.reduceEqDiff,Nat.reduceLT,Nat.reduceLeDiff,Nat.reduceAdd,Nat.reduceSub,Nat.reduceMul,Int.reduceAdd,Int.reduceSub,Int.reduceMul,Int.reduceNeg,Int.reduceLE,Int.reduceLT,Int.reduceEq,Int.reduceToNat]) <;> repeat ((with_reducible refine Req.intro ?_ ?_); (first | omega | (simp <;> omega)); try simp only [ex,reduceIte,reduceCtorEq,Nat.reduceEqDiff,Nat.reduceLT,Nat.reduceLeDiff,Nat.reduceAdd,Nat.reduceSub,Nat.reduceMul,Int.reduceAdd,Int.reduceSub,Int.reduceMul,Int.reduceNeg,Int.reduceLE,Int.reduceLT,Int.reduceEq,Int.reduceToNat])
          have := ih (i + 1) (by omega) (by
            rw [List.take_add_one, hx]
            simp at h
            simp [ha]; omega)
          simpa [L8_1] using this
    exact key a.length 0 (by omega) (by simp)
end Go.Proofs.Ytnodepfoahmcmaa.E.Hs

/- Lines of a text: lines.Split and graftageref05.Split. Conditions: none. -/
namespace Go.Proofs.Ytnodepfoahmcmaa.E.Hs
set_option linter.unusedVariables false
set_option linter.unusedSimpArgs false
set_option maxHeartbeats 20000000
set_option maxRecDepth 100000

abbrev Sx := List UInt8
/-- The lines, the bytes 'cur' ahead. -/
def lnG (cur : Sx) : Sx → List Sx
  | [] => if cur = [] then [] else [cur]
  | c :: s => if c = 10 then (cur ++ [c]) :: lnG [] s else lnG (cur ++ [c]) s
def lns (s : Sx) : List Sx := lnG [] s
theorem lnG_none : ∀ (s cur : Sx), Lib.indexByte s 10 = -1 → lnG cur s = if cur ++ s = [] then [] else [cur ++ s]
  | [], cur, h => by simp [lnG]
  | c :: s, cur, h => by
    unfold Lib.indexByte at h
    rw [lnG]
    by_cases e : c = 10
    · subst e; simp at h
    · rw [if_neg e, lnG_none s (cur ++ [c])]
      · simp
      · rw [if_neg (by simpa using e)] at h
        by_cases k : Lib.indexByte s 10 = -1
        · exact k
        · rw [if_neg (by simpa using k)] at h
          have := Lib.indexByte_ge s 10
          omega
theorem lnG_some : ∀ (s cur : Sx) (k : Nat), Lib.indexByte s 10 = (k : Int) → k < s.length ∧ lnG cur s = (cur ++ s.take (k + 1)) :: lns (s.drop (k + 1))
  | [], cur, k, h => by unfold Lib.indexByte at h; omega
  | c :: s, cur, k, h => by
    unfold Lib.indexByte at h
    rw [lnG]
    by_cases e : c = 10
    · subst e
      simp at h
      have : k = 0 := by omega
      subst this
      simp [lns]
    · rw [if_neg (by simpa using e)] at h
      by_cases q : Lib.indexByte s 10 = -1
      · rw [if_pos (by simpa using q)] at h; omega
      · rw [if_neg (by simpa using q)] at h
        have := Lib.indexByte_ge s 10
        have ih := lnG_some s (cur ++ [c]) (k - 1) (by omega)
        have hk : 0 < k := by omega
        rw [if_neg e, ih.2]
        refine ⟨by simp; omega, ?_⟩
        rw [show k = k - 1 + 1 by omega]
        simp
theorem lnG_len : ∀ (s cur : Sx), (lnG cur s).length ≤ s.length + 1
  | [], cur => by unfold lnG; split <;> simp
  | c :: s, cur => by
    unfold lnG
    split
    · have := lnG_len s []; simp; omega
    · have := lnG_len s (cur ++ [c]); simp; omega

theorem index_spec (s : Sx) : Run tab 56 0 [.str s, .str [10]] [] 0 (fun r _ _ => r = .int .i64 (Lib.indexByte s 10)) :=
  (run_ext (q := (.int .i64 (Lib.indexByte s 10), [], 0)) rfl).weaken fun _ _ _ h => h.1
theorem split_spec (s : Sx) (hs : s.length ≤ 1000000) : Run tab 41 0 [.str s] [] 0 (fun r _ _ => r = .sl true 1 ((lns s).map .str)) := by
  refine enter (F := f41) rfl rfl ?_
  simp only [f41, ex,reduceIte,reduceCtorEq,Nat.reduceEqDiff,Nat.reduceLT,Nat.reduceLeDiff,Nat.reduceAdd,Nat.reduceSub,Nat.reduceMul,Int.reduceAdd,Int.reduceSub,Int.reduceMul,Int.reduceNeg,Int.reduceLE,Int.reduceLT,Int.reduceEq,Int.reduceToNat]
  (try simp only [ex,reduceIte,reduceCtorEq,Nat.reduceEqDiff,Nat.reduceLT,Nat.reduceLeDiff,Nat.reduceAdd,Nat.reduceSub,Nat.reduceMul,Int.reduceAdd,Int.reduceSub,Int.reduceMul,Int.reduceNeg,Int.reduceLE,Int.reduceLT,Int.reduceEq,Int.reduceToNat]) <;> repeat ((with_reducible refine Req.intro ?_ ?_); (first | omega | (simp <;> omega)); try simp only [ex,reduceIte,reduceCtorEq,Nat.reduceEqDiff,Nat.reduceLT,Nat.reduceLeDiff,Nat.reduceAdd,Nat.reduceSub,Nat.reduceMul,Int.reduceAdd,Int.reduceSub,Int.reduceMul,Int.reduceNeg,Int.reduceLE,Int.reduceLT,Int.reduceEq,Int.reduceToNat])
  refine loopI fun L hL => ?_
  (try simp only [ex,reduceIte,reduceCtorEq,Nat.reduceEqDiff,Nat.reduceLT,Nat.reduceLeDiff,Nat.reduceAdd,Nat.reduceSub,Nat.reduceMul,Int.reduceAdd,Int.reduceSub,Int.reduceMul,Int.reduceNeg,Int.reduceLE,Int.reduceLT,Int.reduceEq,Int.reduceToNat]) <;> repeat ((with_reducible refine Req.intro ?_ ?_); (first | omega | (simp <;> omega)); try simp only [ex,reduceIte,reduceCtorEq,Nat.reduceEqDiff,Nat.reduceLT,Nat.reduceLeDiff,Nat.reduceAdd,Nat.reduceSub,Nat.reduceMul,Int.reduceAdd,Int.reduceSub,Int.reduceMul,Int.reduceNeg,Int.reduceLE,Int.reduceLT,Int.reduceEq,Int.reduceToNat])
  have key : ∀ (m : Nat) (t : Sx) (out : List Sx), t.length ≤ m → out.length + t.length ≤ s.length → out ++ lns t = lns s → L (L41_1 (.str t) (.sl true 1 (out.map .str)) [] 0) := by
    intro m
    induction m with
    | zero =>
      intro t out ht ho he
      have ht0 : t = [] := List.eq_nil_of_length_eq_zero (by omega)
      subst ht0
      have he : out = lns s := by rw [← he]; simp [lns, lnG]
      apply hL
      simp only [L41_1, l41_1, ex,reduceIte,reduceCtorEq,Nat.reduceEqDiff,Nat.reduceLT,Nat.reduceLeDiff,Nat.reduceAdd,Nat.reduceSub,Nat.reduceMul,Int.reduceAdd,Int.reduceSub,Int.reduceMul,Int.reduceNeg,Int.reduceLE,Int.reduceLT,Int.reduceEq,Int.reduceToNat]
      (try simp only [ex,reduceIte,reduceCtorEq,Nat.reduceEqDiff,Nat.reduceLT,Nat.reduceLeDiff,Nat.reduceAdd,Nat.reduceSub,Nat.reduceMul,Int.reduceAdd,Int.reduceSub,Int.reduceMul,Int.reduceNeg,Int.reduceLE,Int.reduceLT,Int.reduceEq,Int.reduceToNat]) <;> repeat ((with_reducible refine Req.intro ?_ ?_); (first | omega | (simp <;> omega)); try simp only [ex,reduceIte,reduceCtorEq,Nat.reduceEqDiff,Nat.reduceLT,Nat.reduceLeDiff,Nat.reduceAdd,Nat.reduceSub,Nat.reduceMul,Int.reduceAdd,Int.reduceSub,Int.reduceMul,Int.reduceNeg,Int.reduceLE,Int.reduceLT,Int.reduceEq,Int.reduceToNat])
      rw [he]
    | succ m ih =>
      intro t out ht ho he
      rcases Classical.em (t = []) with e | e
      · subst e
        have he : out = lns s := by rw [← he]; simp [lns, lnG]
        apply hL
        simp only [L41_1, l41_1, ex,reduceIte,reduceCtorEq,Nat.reduceEqDiff,Nat.reduceLT,Nat.reduceLeDiff,Nat.reduceAdd,Nat.reduceSub,Nat.reduceMul,Int.reduceAdd,Int.reduceSub,Int.reduceMul,Int.reduceNeg,Int.reduceLE,Int.reduceLT,Int.reduceEq,Int.reduceToNat]
        (try simp only [ex,reduceIte,reduceCtorEq,Nat.reduceEqDiff,Nat.reduceLT,Nat.reduceLeDiff,Nat.reduceAdd,Nat.reduceSub,Nat.reduceMul,Int.reduceAdd,Int.reduceSub,Int.reduceMul,Int.reduceNeg,Int.reduceLE,Int.reduceLT,Int.reduceEq,Int.reduceToNat]) <;> repeat ((with_reducible refine Req.intro ?_ ?_); (first | omega | (simp <;> omega)); try simp only [ex,reduceIte,reduceCtorEq,Nat.reduceEqDiff,Nat.reduceLT,Nat.reduceLeDiff,Nat.reduceAdd,Nat.reduceSub,Nat.reduceMul,Int.reduceAdd,Int.reduceSub,Int.reduceMul,Int.reduceNeg,Int.reduceLE,Int.reduceLT,Int.reduceEq,Int.reduceToNat])
        rw [he]
      · have hl : 0 < t.length := List.length_pos_iff.2 e
        have h1 : decide (t ≠ []) = true := by simpa using e
        have h2 : decide (t = []) = false := by simpa using e
        rcases Classical.em (Lib.indexByte t 10 = -1) with q | q
        · have hn := lnG_none t [] q
          rw [List.nil_append, if_neg e] at hn
          have h9 := ih [] (out ++ [t]) (by simp) (by simp; omega) (by rw [← he]; show out ++ [t] ++ lnG [] [] = out ++ lnG [] t; rw [hn]; simp [lnG])
          rw [List.map_append] at h9
          have d1 : decide ((-1 : Int) + 1 = 0) = true := by decide
          have d2 : decide ((0 : Int) = 0) = true := by decide
          apply hL
          simp only [L41_1, l41_1, ex,reduceIte,reduceCtorEq,Nat.reduceEqDiff,Nat.reduceLT,Nat.reduceLeDiff,Nat.reduceAdd,Nat.reduceSub,Nat.reduceMul,Int.reduceAdd,Int.reduceSub,Int.reduceMul,Int.reduceNeg,Int.reduceLE,Int.reduceLT,Int.reduceEq,Int.reduceToNat]
          (try simp only [h1, h2, ex,reduceIte,reduceCtorEq,Nat.reduceEqDiff,Nat.reduceLT,Nat.reduceLeDiff,Nat.reduceAdd,Nat.reduceSub,Nat.reduceMul,Int.reduceAdd,Int.reduceSub,Int.reduceMul,Int.reduceNeg,Int.reduceLE,Int.reduceLT,Int.reduceEq,Int.reduceToNat]) <;> repeat ((with_reducible refine Req.intro ?_ ?_); (first | omega | (simp <;> omega)); try simp only [h1, h2, ex,reduceIte,reduceCtorEq,Nat.reduceEqDiff,Nat.reduceLT,Nat.reduceLeDiff,Nat.reduceAdd,Nat.reduceSub,Nat.reduceMul,Int.reduceAdd,Int.reduceSub,Int.reduceMul,Int.reduceNeg,Int.reduceLE,Int.reduceLT,Int.reduceEq,Int.reduceToNat])
          refine CallA.eq rfl (index_spec t) rfl ?_
          rw [q]
          have dl : t.drop t.length = [] := List.drop_length
          have tl : t.take t.length = t := List.take_length
          (try simp only [d1, d2, dl, tl, ex,reduceIte,reduceCtorEq,Nat.reduceEqDiff,Nat.reduceLT,Nat.reduceLeDiff,Nat.reduceAdd,Nat.reduceSub,Nat.reduceMul,Int.reduceAdd,Int.reduceSub,Int.reduceMul,Int.reduceNeg,Int.reduceLE,Int.reduceLT,Int.reduceEq,Int.reduceToNat]) <;> repeat ((with_reducible refine Req.intro ?_ ?_); (first | omega | (simp <;> omega)); try simp only [d1, d2, dl, tl, ex,reduceIte,reduceCtorEq,Nat.reduceEqDiff,Nat.reduceLT,Nat.reduceLeDiff,Nat.reduceAdd,Nat.reduceSub,Nat.reduceMul,Int.reduceAdd,Int.reduceSub,Int.reduceMul,Int.reduceNeg,Int.reduceLE,Int.reduceLT,Int.reduceEq,Int.reduceToNat])
          exact h9
        · have hge := Lib.indexByte_ge t 10
          obtain ⟨k, hk⟩ : ∃ k : Nat, Lib.indexByte t 10 = (k : Int) := ⟨(Lib.indexByte t 10).toNat, by omega⟩
          have hn := lnG_some t [] k hk
          rw [List.nil_append] at hn
          have h9 := ih (t.drop (k + 1)) (out ++ [t.take (k + 1)]) (by simp; omega) (by simp; omega) (by rw [← he, show lns t = _ from hn.2]; simp)
          rw [List.map_append] at h9
          have d1 : decide ((k : Int) + 1 = 0) = false := by simp; omega
          have t1 : ((k : Int) + 1).toNat = k + 1 := by omega
          have hkl := hn.1
          apply hL
          simp only [L41_1, l41_1, ex,reduceIte,reduceCtorEq,Nat.reduceEqDiff,Nat.reduceLT,Nat.reduceLeDiff,Nat.reduceAdd,Nat.reduceSub,Nat.reduceMul,Int.reduceAdd,Int.reduceSub,Int.reduceMul,Int.reduceNeg,Int.reduceLE,Int.reduceLT,Int.reduceEq,Int.reduceToNat]
          (try simp only [h1, h2, ex,reduceIte,reduceCtorEq,Nat.reduceEqDiff,Nat.reduceLT,Nat.reduceLeDiff,Nat.reduceAdd,Nat.reduceSub,Nat.reduceMul,Int.reduceAdd,Int.reduceSub,Int.reduceMul,Int.reduceNeg,Int.reduceLE,Int.reduceLT,Int.reduceEq,Int.reduceToNat]) <;> repeat ((with_reducible refine Req.intro ?_ ?_); (first | omega | (simp <;> omega)); try simp only [h1, h2, ex,reduceIte,reduceCtorEq,Nat.reduceEqDiff,Nat.reduceLT,Nat.reduceLeDiff,Nat.reduceAdd,Nat.reduceSub,Nat.reduceMul,Int.reduceAdd,Int.reduceSub,Int.reduceMul,Int.reduceNeg,Int.reduceLE,Int.reduceLT,Int.reduceEq,Int.reduceToNat])
          refine CallA.eq rfl (index_spec t) rfl ?_
          rw [hk]
          (try simp only [d1, t1, ex,reduceIte,reduceCtorEq,Nat.reduceEqDiff,Nat.reduceLT,Nat.reduceLeDiff,Nat.reduceAdd,Nat.reduceSub,Nat.reduceMul,Int.reduceAdd,Int.reduceSub,Int.reduceMul,Int.reduceNeg,Int.reduceLE,Int.reduceLT,Int.reduceEq,Int.reduceToNat]) <;> repeat ((with_reducible refine Req.intro ?_ ?_); (first | omega | (simp <;> omega)); try simp only [d1, t1, ex,reduceIte,reduceCtorEq,Nat.reduceEqDiff,Nat.reduceLT,Nat.reduceLeDiff,Nat.reduceAdd,Nat.reduceSub,Nat.reduceMul,Int.reduceAdd,Int.reduceSub,Int.reduceMul,Int.reduceNeg,Int.reduceLE,Int.reduceLT,Int.reduceEq,Int.reduceToNat])
          exact h9
  exact key s.length s [] (Nat.le_refl _) (by simp) (by simp)

theorem rsplit_spec (s : Sx) (hs : s.length ≤ 1000000) : Run tab 43 0 [.str s] [] 0 (fun r _ _ => r = .sl true 1 ((lns s).map .str)) := by
  refine enter (F := f43) rfl rfl ?_
  simp only [f43, ex,reduceIte,reduceCtorEq,Nat.reduceEqDiff,Nat.reduceLT,Nat.reduceLeDiff,Nat.reduceAdd,Nat.reduceSub,Nat.reduceMul,Int.reduceAdd,Int.reduceSub,Int.reduceMul,Int.reduceNeg,Int.reduceLE,Int.reduceLT,Int.reduceEq,Int.reduceToNat]
  (try simp only [ex,reduceIte,reduceCtorEq,Nat.reduceEqDiff,Nat.reduceLT,Nat.reduceLeDiff,Nat.reduceAdd,Nat.reduceSub,Nat.reduceMul,Int.reduceAdd,Int.reduceSub,Int.reduceMul,Int.reduceNeg,Int.reduceLE,Int.reduceLT,Int.reduceEq,Int.reduceToNat]) <;> repeat ((with_reducible refine Req.intro ?_ ?_); (first | omega | (simp <;> omega)); try simp only [ex,reduceIte,reduceCtorEq,Nat.reduceEqDiff,Nat.reduceLT,Nat.reduceLeDiff,Nat.reduceAdd,Nat.reduceSub,Nat.reduceMul,Int.reduceAdd,Int.reduceSub,Int.reduceMul,Int.reduceNeg,Int.reduceLE,Int.reduceLT,Int.reduceEq,Int.reduceToNat])
  refine loopI fun L hL => ?_
  (try simp only [ex,reduceIte,reduceCtorEq,Nat.reduceEqDiff,Nat.reduceLT,Nat.reduceLeDiff,Nat.reduceAdd,Nat.reduceSub,Nat.reduceMul,Int.reduceAdd,Int.reduceSub,Int.reduceMul,Int.reduceNeg,Int.reduceLE,Int.reduceLT,Int.reduceEq,Int.reduceToNat]) <;> repeat ((with_reducible refine Req.intro ?_ ?_); (first | omega | (simp <;> omega)); try simp only [ex,reduceIte,reduceCtorEq,Nat.reduceEqDiff,Nat.reduceLT,Nat.reduceLeDiff,Nat.reduceAdd,Nat.reduceSub,Nat.reduceMul,Int.reduceAdd,Int.reduceSub,Int.reduceMul,Int.reduceNeg,Int.reduceLE,Int.reduceLT,Int.reduceEq,Int.reduceToNat])
  have key : ∀ (m i fr : Nat) (out : List Sx), i + m = s.length → fr ≤ i → out.length ≤ i → out ++ lnG ((s.take i).drop fr) (s.drop i) = lns s → L (L43_1 (.str s) (.sl true 1 (out.map .str)) (.int .i64 fr) (.int .i64 s.length) (.int .i64 i) [] 0) := by
    intro m
    induction m with
    | zero =>
      intro i fr out hi hf ho he
      have h1 : decide ((i : Int) < (s.length : Int)) = false := by simp; omega
      rw [show s.drop i = [] from List.drop_of_length_le (by omega), show s.take i = s from List.take_of_length_le (by omega), lnG] at he
      rcases Nat.lt_or_ge fr s.length with c | c
      · have h2 : decide ((fr : Int) < (s.length : Int)) = true := by simp; omega
        rw [if_neg (fun e => by have := congrArg List.length e; simp at this; omega)] at he
        apply hL
        simp only [L43_1, l43_1, ex,reduceIte,reduceCtorEq,Nat.reduceEqDiff,Nat.reduceLT,Nat.reduceLeDiff,Nat.reduceAdd,Nat.reduceSub,Nat.reduceMul,Int.reduceAdd,Int.reduceSub,Int.reduceMul,Int.reduceNeg,Int.reduceLE,Int.reduceLT,Int.reduceEq,Int.reduceToNat]
        (try simp only [h1, h2, ex,reduceIte,reduceCtorEq,Nat.reduceEqDiff,Nat.reduceLT,Nat.reduceLeDiff,Nat.reduceAdd,Nat.reduceSub,Nat.reduceMul,Int.reduceAdd,Int.reduceSub,Int.reduceMul,Int.reduceNeg,Int.reduceLE,Int.reduceLT,Int.reduceEq,Int.reduceToNat]) <;> repeat ((with_reducible refine Req.intro ?_ ?_); (first | omega | (simp <;> omega)); try simp only [h1, h2, ex,reduceIte,reduceCtorEq,Nat.reduceEqDiff,Nat.reduceLT,Nat.reduceLeDiff,Nat.reduceAdd,Nat.reduceSub,Nat.reduceMul,Int.reduceAdd,Int.reduceSub,Int.reduceMul,Int.reduceNeg,Int.reduceLE,Int.reduceLT,Int.reduceEq,Int.reduceToNat])
        rw [← he]; simp
      · have h2 : decide ((fr : Int) < (s.length : Int)) = false := by simp; omega
        rw [if_pos (List.drop_of_length_le c), List.append_nil] at he
        apply hL
        simp only [L43_1, l43_1, ex,reduceIte,reduceCtorEq,Nat.reduceEqDiff,Nat.reduceLT,Nat.reduceLeDiff,Nat.reduceAdd,Nat.reduceSub,Nat.reduceMul,Int.reduceAdd,Int.reduceSub,Int.reduceMul,Int.reduceNeg,Int.reduceLE,Int.reduceLT,Int.reduceEq,Int.reduceToNat]
        (try simp only [h1, h2, ex,reduceIte,reduceCtorEq,Nat.reduceEqDiff,Nat.reduceLT,Nat.reduceLeDiff,Nat.reduceAdd,Nat.reduceSub,Nat.reduceMul,Int.reduceAdd,Int.reduceSub,Int.reduceMul,Int.reduceNeg,Int.reduceLE,Int.reduceLT,Int.reduceEq,Int.reduceToNat]) <;> repeat ((with_reducible refine Req.intro ?_ ?_); (first | omega | (simp <;> omega)); try simp only [h1, h2, ex,reduceIte,reduceCtorEq,Nat.reduceEqDiff,Nat.reduceLT,Nat.reduceLeDiff,Nat.reduceAdd,Nat.reduceSub,Nat.reduceMul,Int.reduceAdd,Int.reduceSub,Int.reduceMul,Int.reduceNeg,Int.reduceLE,Int.reduceLT,Int.reduceEq,Int.reduceToNat])
        rw [he]
    | succ m ih =>
      intro i fr out hi hf ho he
      have h1 : decide ((i : Int) < (s.length : Int)) = true := by simp; omega
      have g1 : s[i]? = some (s[i]'(by omega)) := List.getElem?_eq_getElem _
      have g2 : s.getD i 0 = s[i]'(by omega) := by rw [List.getD_eq_getElem?_getD, g1]; rfl
      rw [show s.drop i = s[i]'(by omega) :: s.drop (i + 1) from List.drop_eq_getElem_cons (by omega), lnG] at he
      have ht : (s.take (i + 1)).drop fr = (s.take i).drop fr ++ [s[i]'(by omega)] := by
        rw [List.take_add_one, g1, List.drop_append_of_le_length (by simp; omega)]; rfl
      generalize s[i]'(by omega) = c at *
      have t1 : ((i : Int) + 1).toNat = i + 1 := by omega
      rcases Classical.em (c = 10) with e | e
      · have h2 : decide (((c.toNat : Nat) : Int) = 10) = true := by rw [e]; decide
        rw [if_pos e, ← ht] at he
        have h9 := ih (i + 1) (i + 1) (out ++ [(s.take (i + 1)).drop fr]) (by omega) (by omega) (by simp; omega) (by rw [← he]; simp [List.drop_of_length_le])
        rw [List.map_append] at h9
        apply hL
        simp only [L43_1, l43_1, ex,reduceIte,reduceCtorEq,Nat.reduceEqDiff,Nat.reduceLT,Nat.reduceLeDiff,Nat.reduceAdd,Nat.reduceSub,Nat.reduceMul,Int.reduceAdd,Int.reduceSub,Int.reduceMul,Int.reduceNeg,Int.reduceLE,Int.reduceLT,Int.reduceEq,Int.reduceToNat]
        (try simp only [h1, g1, g2, h2, t1, ex,reduceIte,reduceCtorEq,Nat.reduceEqDiff,Nat.reduceLT,Nat.reduceLeDiff,Nat.reduceAdd,Nat.reduceSub,Nat.reduceMul,Int.reduceAdd,Int.reduceSub,Int.reduceMul,Int.reduceNeg,Int.reduceLE,Int.reduceLT,Int.reduceEq,Int.reduceToNat]) <;> repeat ((with_reducible refine Req.intro ?_ ?_); (first | omega | (simp <;> omega)); try simp only [h1, g1, g2, h2, t1, ex,reduceIte,reduceCtorEq,Nat.reduceEqDiff,Nat.reduceLT,Nat.reduceLeDiff,Nat.reduceAdd,Nat.reduceSub,Nat.reduceMul,Int.reduceAdd,Int.reduceSub,Int.reduceMul,Int.reduceNeg,Int.reduceLE,Int.reduceLT,Int.reduceEq,Int.reduceToNat])
        exact h9
      · have h2 : decide (((c.toNat : Nat) : Int) = 10) = false := by
          simp only [decide_eq_false_iff_not]
          intro h
          apply e
          apply UInt8.toNat_inj.1
          show c.toNat = 10
          omega
        rw [if_neg e, ← ht] at he
        have h9 := ih (i + 1) fr out (by omega) (by omega) (by omega) he
        apply hL
        simp only [L43_1, l43_1, ex,reduceIte,reduceCtorEq,Nat.reduceEqDiff,Nat.reduceLT,Nat.reduceLeDiff,Nat.reduceAdd,Nat.reduceSub,Nat.reduceMul,Int.reduceAdd,Int.reduceSub,Int.reduceMul,Int.reduceNeg,Int.reduceLE,Int.reduceLT,Int.reduceEq,Int.reduceToNat]
        (try simp only [h1, g1, g2, h2, t1, ex,reduceIte,reduceCtorEq,Nat.reduceEqDiff,Nat.reduceLT,Nat.reduceLeDiff,Nat.reduceAdd,Nat.reduceSub,Nat.reduceMul,Int.reduceAdd,Int.reduceSub,Int.reduceMul,Int.reduceNeg,Int.reduceLE,Int.reduceLT,Int.reduceEq,Int.reduceToNat]) <;> repeat ((with_reducible refine Req.intro ?_ ?_); (first | omega | (simp <;> omega)); try simp only [h1, g1, g2, h2, t1, ex,reduceIte,reduceCtorEq,Nat.reduceEqDiff,Nat.reduceLT,Nat.reduceLeDiff,Nat.reduceAdd,Nat.reduceSub,Nat.reduceMul,Int.reduceAdd,Int.reduceSub,Int.reduceMul,Int.reduceNeg,Int.reduceLE,Int.reduceLT,Int.reduceEq,Int.reduceToNat])
        exact h9
  exact key s.length 0 0 [] (Nat.zero_add _) (Nat.le_refl _) (by simp) (by simp [lns])
end Go.Proofs.Ytnodepfoahmcmaa.E.Hs

/- Chapter 12: regions; Clean and Lines of both. Conditions: none. -/
namespace Go.Proofs.Ytnodepfoahmcmaa.E.Hs
set_option linter.unusedVariables false
set_option linter.unusedSimpArgs false
set_option maxHeartbeats 20000000
set_option maxRecDepth 100000

/-- A region. -/
structure Rg where
  k : Int
  l : List Sx
  o : List Sx
  b : List Sx
  t : List Sx
def rgV (r : Rg) : V := .agg [.int .i64 r.k, .sl false 1 (r.l.map .str), .sl false 1 (r.o.map .str), .sl false 1 (r.b.map .str), .sl false 1 (r.t.map .str)]
/-- Regions that are not too long. -/
def OkR (rs : List Rg) : Prop := rs.length ≤ 10000 ∧ ∀ r ∈ rs, r.l.length ≤ 10000 ∧ r.o.length ≤ 10000 ∧ r.b.length ≤ 10000 ∧ r.t.length ≤ 10000
theorem rgV_get (rs : List Rg) (i : Nat) (h : i < rs.length) : (rs.map rgV)[i]? = some (rgV rs[i]) := by simp [h]
def isCl (rs : List Rg) : Bool := !rs.any fun r => decide (r.k = 2)
theorem any_step (rs : List Rg) (p : Rg → Bool) (i : Nat) (h : i < rs.length) : (rs.drop i).any p = (p rs[i] || (rs.drop (i + 1)).any p) := by rw [List.drop_eq_getElem_cons h, List.any_cons]

theorem cfn_spec (r : Rg) (h : Heap) (n : Nat) : Run tab 34 0 [rgV r] h n (fun v h' n' => v = .bool (decide (r.k = 2)) ∧ h' = h ∧ n' = n + 1) := by
  refine enter (F := f34) rfl rfl ?_
  simp only [f34, rgV, ex,reduceIte,reduceCtorEq,Nat.reduceEqDiff,Nat.reduceLT,Nat.reduceLeDiff,Nat.reduceAdd,Nat.reduceSub,Nat.reduceMul,Int.reduceAdd,Int.reduceSub,Int.reduceMul,Int.reduceNeg,Int.reduceLE,Int.reduceLT,Int.reduceEq,Int.reduceToNat]
theorem idxR_spec (o : Bool) (rs : List Rg) (h : Heap) (n : Nat) (hl : rs.length ≤ 10000) :
    Run tab 53 0 [.sl o 5 (rs.map rgV), .fn 34 []] h n (fun v h' n' => (∃ i : Int, v = .int .i64 i ∧ decide (i ≥ 0) = rs.any fun r => decide (r.k = 2)) ∧ h' = h ∧ n ≤ n') := by
  refine enter (F := f53) rfl rfl ?_
  simp only [f53, ex,reduceIte,reduceCtorEq,Nat.reduceEqDiff,Nat.reduceLT,Nat.reduceLeDiff,Nat.reduceAdd,Nat.reduceSub,Nat.reduceMul,Int.reduceAdd,Int.reduceSub,Int.reduceMul,Int.reduceNeg,Int.reduceLE,Int.reduceLT,Int.reduceEq,Int.reduceToNat]
  (try simp only [ex,reduceIte,reduceCtorEq,Nat.reduceEqDiff,Nat.reduceLT,Nat.reduceLeDiff,Nat.reduceAdd,Nat.reduceSub,Nat.reduceMul,Int.reduceAdd,Int.reduceSub,Int.reduceMul,Int.reduceNeg,Int.reduceLE,Int.reduceLT,Int.reduceEq,Int.reduceToNat]) <;> repeat ((with_reducible refine Req.intro ?_ ?_); (first | omega | (simp <;> omega)); try simp only [ex,reduceIte,reduceCtorEq,Nat.reduceEqDiff,Nat.reduceLT,Nat.reduceLeDiff,Nat.reduceAdd,Nat.reduceSub,Nat.reduceMul,Int.reduceAdd,Int.reduceSub,Int.reduceMul,Int.reduceNeg,Int.reduceLE,Int.reduceLT,Int.reduceEq,Int.reduceToNat])
  refine loopI fun L hL => ?_
  (try simp only [ex,reduceIte,reduceCtorEq,Nat.reduceEqDiff,Nat.reduceLT,Nat.reduceLeDiff,Nat.reduceAdd,Nat.reduceSub,Nat.reduceMul,Int.reduceAdd,Int.reduceSub,Int.reduceMul,Int.reduceNeg,Int.reduceLE,Int.reduceLT,Int.reduceEq,Int.reduceToNat]) <;> repeat ((with_reducible refine Req.intro ?_ ?_); (first | omega | (simp <;> omega)); try simp only [ex,reduceIte,reduceCtorEq,Nat.reduceEqDiff,Nat.reduceLT,Nat.reduceLeDiff,Nat.reduceAdd,Nat.reduceSub,Nat.reduceMul,Int.reduceAdd,Int.reduceSub,Int.reduceMul,Int.reduceNeg,Int.reduceLE,Int.reduceLT,Int.reduceEq,Int.reduceToNat])
  have key : ∀ (m i N : Nat), i + m = rs.length → n ≤ N → (rs.take i).any (fun r => decide (r.k = 2)) = false → L (L53_1 (.sl o 5 (rs.map rgV)) (.fn 34 []) (.int .i64 rs.length) (.int .i64 i) h N) := by
    intro m
    induction m with
    | zero =>
      intro i N hi hN ha
      have k1 : decide ((i : Int) < (rs.length : Int)) = false := by simp; omega
      rw [List.take_of_length_le (by omega)] at ha
      apply hL
      simp only [L53_1, l53_1, ex,reduceIte,reduceCtorEq,Nat.reduceEqDiff,Nat.reduceLT,Nat.reduceLeDiff,Nat.reduceAdd,Nat.reduceSub,Nat.reduceMul,Int.reduceAdd,Int.reduceSub,Int.reduceMul,Int.reduceNeg,Int.reduceLE,Int.reduceLT,Int.reduceEq,Int.reduceToNat]
      (try simp only [k1, ex,reduceIte,reduceCtorEq,Nat.reduceEqDiff,Nat.reduceLT,Nat.reduceLeDiff,Nat.reduceAdd,Nat.reduceSub,Nat.reduceMul,Int.reduceAdd,Int.reduceSub,Int.reduceMul,Int.reduceNeg,Int.reduceLE,Int.reduceLT,Int.reduceEq,Int.reduceToNat]) <;> repeat ((with_reducible refine Req.intro ?_ ?_); (first | omega | (simp <;> omega)); try simp only [k1, ex,reduceIte,reduceCtorEq,Nat.reduceEqDiff,Nat.reduceLT,Nat.reduceLeDiff,Nat.reduceAdd,Nat.reduceSub,Nat.reduceMul,Int.reduceAdd,Int.reduceSub,Int.reduceMul,Int.reduceNeg,Int.reduceLE,Int.reduceLT,Int.reduceEq,Int.reduceToNat])
      exact ⟨⟨_, rfl, by rw [ha]; decide⟩, hN⟩
    | succ m ih =>
      intro i N hi hN ha
      have k1 : decide ((i : Int) < (rs.length : Int)) = true := by simp; omega
      have g1 : rs[i]? = some (rs[i]'(by omega)) := List.getElem?_eq_getElem _
      have ht : rs.take (i + 1) = rs.take i ++ [rs[i]'(by omega)] := by rw [List.take_add_one, g1]; rfl
      have hm : rs[i]'(by omega) ∈ rs := List.getElem_mem _
      generalize rs[i]'(by omega) = r at *
      have hc : (rgV r).cells = [.int .i64 r.k, .sl false 1 (r.l.map .str), .sl false 1 (r.o.map .str), .sl false 1 (r.b.map .str), .sl false 1 (r.t.map .str)] := rfl
      apply hL
      simp only [L53_1, l53_1, ex,reduceIte,reduceCtorEq,Nat.reduceEqDiff,Nat.reduceLT,Nat.reduceLeDiff,Nat.reduceAdd,Nat.reduceSub,Nat.reduceMul,Int.reduceAdd,Int.reduceSub,Int.reduceMul,Int.reduceNeg,Int.reduceLE,Int.reduceLT,Int.reduceEq,Int.reduceToNat]
      (try simp only [k1, g1, hc, ex,reduceIte,reduceCtorEq,Nat.reduceEqDiff,Nat.reduceLT,Nat.reduceLeDiff,Nat.reduceAdd,Nat.reduceSub,Nat.reduceMul,Int.reduceAdd,Int.reduceSub,Int.reduceMul,Int.reduceNeg,Int.reduceLE,Int.reduceLT,Int.reduceEq,Int.reduceToNat]) <;> repeat ((with_reducible refine Req.intro ?_ ?_); (first | omega | (simp <;> omega)); try simp only [k1, g1, hc, ex,reduceIte,reduceCtorEq,Nat.reduceEqDiff,Nat.reduceLT,Nat.reduceLeDiff,Nat.reduceAdd,Nat.reduceSub,Nat.reduceMul,Int.reduceAdd,Int.reduceSub,Int.reduceMul,Int.reduceNeg,Int.reduceLE,Int.reduceLT,Int.reduceEq,Int.reduceToNat])
      refine CallH.eq (cfn_spec r h N) ?_
      have hnn : N + (N + 1 - N) = N + 1 := by omega
      refine Classical.byCases (p := r.k = 2) (fun e => ?_) (fun e => ?_)
      · have e1 : decide (r.k = 2) = true := decide_eq_true e
        have ha2 : rs.any (fun r => decide (r.k = 2)) = true := List.any_eq_true.2 ⟨r, hm, e1⟩
        (try simp only [e1, hnn, ex,reduceIte,reduceCtorEq,Nat.reduceEqDiff,Nat.reduceLT,Nat.reduceLeDiff,Nat.reduceAdd,Nat.reduceSub,Nat.reduceMul,Int.reduceAdd,Int.reduceSub,Int.reduceMul,Int.reduceNeg,Int.reduceLE,Int.reduceLT,Int.reduceEq,Int.reduceToNat]) <;> repeat ((with_reducible refine Req.intro ?_ ?_); (first | omega | (simp <;> omega)); try simp only [e1, hnn, ex,reduceIte,reduceCtorEq,Nat.reduceEqDiff,Nat.reduceLT,Nat.reduceLeDiff,Nat.reduceAdd,Nat.reduceSub,Nat.reduceMul,Int.reduceAdd,Int.reduceSub,Int.reduceMul,Int.reduceNeg,Int.reduceLE,Int.reduceLT,Int.reduceEq,Int.reduceToNat])
        exact ⟨⟨_, rfl, by rw [ha2]; simp⟩, by omega⟩
      · have e1 : decide (r.k = 2) = false := decide_eq_false e
        have h9 := ih (i + 1) (N + 1) (by omega) (by omega) (by rw [ht, List.any_append, ha]; simp [e])
        (try simp only [e1, hnn, ex,reduceIte,reduceCtorEq,Nat.reduceEqDiff,Nat.reduceLT,Nat.reduceLeDiff,Nat.reduceAdd,Nat.reduceSub,Nat.reduceMul,Int.reduceAdd,Int.reduceSub,Int.reduceMul,Int.reduceNeg,Int.reduceLE,Int.reduceLT,Int.reduceEq,Int.reduceToNat]) <;> repeat ((with_reducible refine Req.intro ?_ ?_); (first | omega | (simp <;> omega)); try simp only [e1, hnn, ex,reduceIte,reduceCtorEq,Nat.reduceEqDiff,Nat.reduceLT,Nat.reduceLeDiff,Nat.reduceAdd,Nat.reduceSub,Nat.reduceMul,Int.reduceAdd,Int.reduceSub,Int.reduceMul,Int.reduceNeg,Int.reduceLE,Int.reduceLT,Int.reduceEq,Int.reduceToNat])
        exact h9
  exact key rs.length 0 n (Nat.zero_add _) (Nat.le_refl _) rfl
theorem cfR_spec (o : Bool) (rs : List Rg) (h : Heap) (n : Nat) (hl : rs.length ≤ 10000) :
    Run tab 33 0 [.sl o 5 (rs.map rgV), .fn 34 []] h n (fun v h' n' => v = .bool (rs.any fun r => decide (r.k = 2)) ∧ h' = h ∧ n ≤ n') := by
  refine enter (F := f33) rfl rfl ?_
  simp only [f33, ex,reduceIte,reduceCtorEq,Nat.reduceEqDiff,Nat.reduceLT,Nat.reduceLeDiff,Nat.reduceAdd,Nat.reduceSub,Nat.reduceMul,Int.reduceAdd,Int.reduceSub,Int.reduceMul,Int.reduceNeg,Int.reduceLE,Int.reduceLT,Int.reduceEq,Int.reduceToNat]
  (try simp only [ex,reduceIte,reduceCtorEq,Nat.reduceEqDiff,Nat.reduceLT,Nat.reduceLeDiff,Nat.reduceAdd,Nat.reduceSub,Nat.reduceMul,Int.reduceAdd,Int.reduceSub,Int.reduceMul,Int.reduceNeg,Int.reduceLE,Int.reduceLT,Int.reduceEq,Int.reduceToNat]) <;> repeat ((with_reducible refine Req.intro ?_ ?_); (first | omega | (simp <;> omega)); try simp only [ex,reduceIte,reduceCtorEq,Nat.reduceEqDiff,Nat.reduceLT,Nat.reduceLeDiff,Nat.reduceAdd,Nat.reduceSub,Nat.reduceMul,Int.reduceAdd,Int.reduceSub,Int.reduceMul,Int.reduceNeg,Int.reduceLE,Int.reduceLT,Int.reduceEq,Int.reduceToNat])
  refine CallH.any (idxR_spec _ rs h n hl) ?_
  intro v h' m hx
  have y := hx.1.choose_spec
  generalize hx.1.choose = i at y
  have y1 := y.1
  have y2 := y.2
  have y3 := hx.2.1
  have y4 := hx.2.2
  clear hx y
  (try simp only [y1, y2, y3, ex,reduceIte,reduceCtorEq,Nat.reduceEqDiff,Nat.reduceLT,Nat.reduceLeDiff,Nat.reduceAdd,Nat.reduceSub,Nat.reduceMul,Int.reduceAdd,Int.reduceSub,Int.reduceMul,Int.reduceNeg,Int.reduceLE,Int.reduceLT,Int.reduceEq,Int.reduceToNat]) <;> repeat ((with_reducible refine Req.intro ?_ ?_); (first | omega | (simp <;> omega)); try simp only [y1, y2, y3, ex,reduceIte,reduceCtorEq,Nat.reduceEqDiff,Nat.reduceLT,Nat.reduceLeDiff,Nat.reduceAdd,Nat.reduceSub,Nat.reduceMul,Int.reduceAdd,Int.reduceSub,Int.reduceMul,Int.reduceNeg,Int.reduceLE,Int.reduceLT,Int.reduceEq,Int.reduceToNat])
  omega
theorem clean1_spec (o : Bool) (rs : List Rg) (hl : rs.length ≤ 10000) : Run tab 13 0 [.sl o 5 (rs.map rgV)] [] 0 (fun v _ _ => v = .bool (isCl rs)) := by
  refine enter (F := f13) rfl rfl ?_
  simp only [f13, ex,reduceIte,reduceCtorEq,Nat.reduceEqDiff,Nat.reduceLT,Nat.reduceLeDiff,Nat.reduceAdd,Nat.reduceSub,Nat.reduceMul,Int.reduceAdd,Int.reduceSub,Int.reduceMul,Int.reduceNeg,Int.reduceLE,Int.reduceLT,Int.reduceEq,Int.reduceToNat]
  (try simp only [ex,reduceIte,reduceCtorEq,Nat.reduceEqDiff,Nat.reduceLT,Nat.reduceLeDiff,Nat.reduceAdd,Nat.reduceSub,Nat.reduceMul,Int.reduceAdd,Int.reduceSub,Int.reduceMul,Int.reduceNeg,Int.reduceLE,Int.reduceLT,Int.reduceEq,Int.reduceToNat]) <;> repeat ((with_reducible refine Req.intro ?_ ?_); (first | omega | (simp <;> omega)); try simp only [ex,reduceIte,reduceCtorEq,Nat.reduceEqDiff,Nat.reduceLT,Nat.reduceLeDiff,Nat.reduceAdd,Nat.reduceSub,Nat.reduceMul,Int.reduceAdd,Int.reduceSub,Int.reduceMul,Int.reduceNeg,Int.reduceLE,Int.reduceLT,Int.reduceEq,Int.reduceToNat])
  refine CallH.any (cfR_spec _ rs [] 0 hl) ?_
  intro v h' m hx
  have y1 := hx.1
  have y3 := hx.2.1
  clear hx
  (try simp only [y1, y3, ex,reduceIte,reduceCtorEq,Nat.reduceEqDiff,Nat.reduceLT,Nat.reduceLeDiff,Nat.reduceAdd,Nat.reduceSub,Nat.reduceMul,Int.reduceAdd,Int.reduceSub,Int.reduceMul,Int.reduceNeg,Int.reduceLE,Int.reduceLT,Int.reduceEq,Int.reduceToNat]) <;> repeat ((with_reducible refine Req.intro ?_ ?_); (first | omega | (simp <;> omega)); try simp only [y1, y3, ex,reduceIte,reduceCtorEq,Nat.reduceEqDiff,Nat.reduceLT,Nat.reduceLeDiff,Nat.reduceAdd,Nat.reduceSub,Nat.reduceMul,Int.reduceAdd,Int.reduceSub,Int.reduceMul,Int.reduceNeg,Int.reduceLE,Int.reduceLT,Int.reduceEq,Int.reduceToNat])
  rfl
theorem clean2_spec (o : Bool) (rs : List Rg) (hl : rs.length ≤ 10000) : Run tab 14 0 [.sl o 5 (rs.map rgV)] [] 0 (fun v _ _ => v = .bool (isCl rs)) := by
  refine enter (F := f14) rfl rfl ?_
  simp only [f14, ex,reduceIte,reduceCtorEq,Nat.reduceEqDiff,Nat.reduceLT,Nat.reduceLeDiff,Nat.reduceAdd,Nat.reduceSub,Nat.reduceMul,Int.reduceAdd,Int.reduceSub,Int.reduceMul,Int.reduceNeg,Int.reduceLE,Int.reduceLT,Int.reduceEq,Int.reduceToNat]
  (try simp only [ex,reduceIte,reduceCtorEq,Nat.reduceEqDiff,Nat.reduceLT,Nat.reduceLeDiff,Nat.reduceAdd,Nat.reduceSub,Nat.reduceMul,Int.reduceAdd,Int.reduceSub,Int.reduceMul,Int.reduceNeg,Int.reduceLE,Int.reduceLT,Int.reduceEq,Int.reduceToNat]) <;> repeat ((with_reducible refine Req.intro ?_ ?_); (first | omega | (simp <;> omega)); try simp only [ex,reduceIte,reduceCtorEq,Nat.reduceEqDiff,Nat.reduceLT,Nat.reduceLeDiff,Nat.reduceAdd,Nat.reduceSub,Nat.reduceMul,Int.reduceAdd,Int.reduceSub,Int.reduceMul,Int.reduceNeg,Int.reduceLE,Int.reduceLT,Int.reduceEq,Int.reduceToNat])
  refine loopI fun L hL => ?_
  (try simp only [ex,reduceIte,reduceCtorEq,Nat.reduceEqDiff,Nat.reduceLT,Nat.reduceLeDiff,Nat.reduceAdd,Nat.reduceSub,Nat.reduceMul,Int.reduceAdd,Int.reduceSub,Int.reduceMul,Int.reduceNeg,Int.reduceLE,Int.reduceLT,Int.reduceEq,Int.reduceToNat]) <;> repeat ((with_reducible refine Req.intro ?_ ?_); (first | omega | (simp <;> omega)); try simp only [ex,reduceIte,reduceCtorEq,Nat.reduceEqDiff,Nat.reduceLT,Nat.reduceLeDiff,Nat.reduceAdd,Nat.reduceSub,Nat.reduceMul,Int.reduceAdd,Int.reduceSub,Int.reduceMul,Int.reduceNeg,Int.reduceLE,Int.reduceLT,Int.reduceEq,Int.reduceToNat])
  have key : ∀ (m i : Nat), i + m = rs.length → (rs.take i).any (fun r => decide (r.k = 2)) = false → L (L14_1 (.sl o 5 (rs.map rgV)) (.int .i64 i) [] 0) := by
    intro m
    induction m with
    | zero =>
      intro i hi ha
      have k1 : decide ((i : Int) < (rs.length : Int)) = false := by simp; omega
      rw [List.take_of_length_le (by omega)] at ha
      apply hL
      simp only [L14_1, l14_1, ex,reduceIte,reduceCtorEq,Nat.reduceEqDiff,Nat.reduceLT,Nat.reduceLeDiff,Nat.reduceAdd,Nat.reduceSub,Nat.reduceMul,Int.reduceAdd,Int.reduceSub,Int.reduceMul,Int.reduceNeg,Int.reduceLE,Int.reduceLT,Int.reduceEq,Int.reduceToNat]
      (try simp only [k1, ex,reduceIte,reduceCtorEq,Nat.reduceEqDiff,Nat.reduceLT,Nat.reduceLeDiff,Nat.reduceAdd,Nat.reduceSub,Nat.reduceMul,Int.reduceAdd,Int.reduceSub,Int.reduceMul,Int.reduceNeg,Int.reduceLE,Int.reduceLT,Int.reduceEq,Int.reduceToNat]) <;> repeat ((with_reducible refine Req.intro ?_ ?_); (first | omega | (simp <;> omega)); try simp only [k1, ex,reduceIte,reduceCtorEq,Nat.reduceEqDiff,Nat.reduceLT,Nat.reduceLeDiff,Nat.reduceAdd,Nat.reduceSub,Nat.reduceMul,Int.reduceAdd,Int.reduceSub,Int.reduceMul,Int.reduceNeg,Int.reduceLE,Int.reduceLT,Int.reduceEq,Int.reduceToNat])
      unfold isCl
      rw [ha]; rfl
    | succ m ih =>
      intro i hi ha
      have k1 : decide ((i : Int) < (rs.length : Int)) = true := by simp; omega
      have g1 : rs[i]? = some (rs[i]'(by omega)) := List.getElem?_eq_getElem _
      have ht : rs.take (i + 1) = rs.take i ++ [rs[i]'(by omega)] := by rw [List.take_add_one, g1]; rfl
      have hm : rs[i]'(by omega) ∈ rs := List.getElem_mem _
      generalize rs[i]'(by omega) = r at *
      have hc : (rgV r).cells = [.int .i64 r.k, .sl false 1 (r.l.map .str), .sl false 1 (r.o.map .str), .sl false 1 (r.b.map .str), .sl false 1 (r.t.map .str)] := rfl
      refine Classical.byCases (p := r.k = 2) (fun e => ?_) (fun e => ?_)
      · have e1 : decide (r.k = 2) = true := decide_eq_true e
        have ha2 : rs.any (fun r => decide (r.k = 2)) = true := List.any_eq_true.2 ⟨r, hm, e1⟩
        apply hL
        simp only [L14_1, l14_1, ex,reduceIte,reduceCtorEq,Nat.reduceEqDiff,Nat.reduceLT,Nat.reduceLeDiff,Nat.reduceAdd,Nat.reduceSub,Nat.reduceMul,Int.reduceAdd,Int.reduceSub,Int.reduceMul,Int.reduceNeg,Int.reduceLE,Int.reduceLT,Int.reduceEq,Int.reduceToNat]
        (try simp only [k1, g1, hc, e1, ex,reduceIte,reduceCtorEq,Nat.reduceEqDiff,Nat.reduceLT,Nat.reduceLeDiff,Nat.reduceAdd,Nat.reduceSub,Nat.reduceMul,Int.reduceAdd,Int.reduceSub,Int.reduceMul,Int.reduceNeg,Int.reduceLE,Int.reduceLT,Int.reduceEq,Int.reduceToNat]) <;> repeat ((with_reducible refine Req.intro ?_ ?_); (first | omega | (simp <;> omega)); try simp only [k1, g1, hc, e1, ex,reduceIte,reduceCtorEq,Nat.reduceEqDiff,Nat.reduceLT,Nat.reduceLeDiff,Nat.reduceAdd,Nat.reduceSub,Nat.reduceMul,Int.reduceAdd,Int.reduceSub,Int.reduceMul,Int.reduceNeg,Int.reduceLE,Int.reduceLT,Int.reduceEq,Int.reduceToNat])
        unfold isCl
        rw [ha2]; rfl
      · have e1 : decide (r.k = 2) = false := decide_eq_false e
        have h9 := ih (i + 1) (by omega) (by rw [ht, List.any_append, ha]; simp [e])
        apply hL
        simp only [L14_1, l14_1, ex,reduceIte,reduceCtorEq,Nat.reduceEqDiff,Nat.reduceLT,Nat.reduceLeDiff,Nat.reduceAdd,Nat.reduceSub,Nat.reduceMul,Int.reduceAdd,Int.reduceSub,Int.reduceMul,Int.reduceNeg,Int.reduceLE,Int.reduceLT,Int.reduceEq,Int.reduceToNat]
        (try simp only [k1, g1, hc, e1, ex,reduceIte,reduceCtorEq,Nat.reduceEqDiff,Nat.reduceLT,Nat.reduceLeDiff,Nat.reduceAdd,Nat.reduceSub,Nat.reduceMul,Int.reduceAdd,Int.reduceSub,Int.reduceMul,Int.reduceNeg,Int.reduceLE,Int.reduceLT,Int.reduceEq,Int.reduceToNat]) <;> repeat ((with_reducible refine Req.intro ?_ ?_); (first | omega | (simp <;> omega)); try simp only [k1, g1, hc, e1, ex,reduceIte,reduceCtorEq,Nat.reduceEqDiff,Nat.reduceLT,Nat.reduceLeDiff,Nat.reduceAdd,Nat.reduceSub,Nat.reduceMul,Int.reduceAdd,Int.reduceSub,Int.reduceMul,Int.reduceNeg,Int.reduceLE,Int.reduceLT,Int.reduceEq,Int.reduceToNat])
        exact h9
  exact key rs.length 0 (Nat.zero_add _) rfl
end Go.Proofs.Ytnodepfoahmcmaa.E.Hs

/- Chapter 12: Lines of both. Conditions: none. -/
namespace Go.Proofs.Ytnodepfoahmcmaa.E.Hs
set_option linter.unusedVariables false
set_option linter.unusedSimpArgs false
set_option maxHeartbeats 20000000
set_option maxRecDepth 100000

/-- A region's lines, ours and theirs where they are wanted. -/
def rgL (x y : Bool) (r : Rg) : List Sx := if r.k = 2 then (if x then r.o else []) ++ (if y then r.t else []) else r.l
def lnR (x y : Bool) (rs : List Rg) : List Sx := rs.flatMap (rgL x y)
def linesR (s : Int) (rs : List Rg) : List Sx := lnR (decide (s = 1) || decide (s = 3)) (decide (s = 2) || decide (s = 3)) rs
theorem lnR_snoc (x y : Bool) (rs : List Rg) (r : Rg) : lnR x y (rs ++ [r]) = lnR x y rs ++ rgL x y r := by simp [lnR]
theorem lnR_len (x y : Bool) (rs : List Rg) (h : OkR rs) (i : Nat) : (lnR x y (rs.take i)).length ≤ 20000 * i := by
  induction i with
  | zero => simp [lnR]
  | succ i ih =>
    rw [List.take_add_one]
    cases hg : rs[i]? with
    | none => simp; omega
    | some r =>
      have hm : r ∈ rs := List.mem_of_getElem? hg
      have := h.2 r hm
      simp only [Option.toList_some, lnR_snoc, List.length_append]
      have h2 : (rgL x y r).length ≤ 20000 := by
        unfold rgL
        split
        · rw [List.length_append]
          split <;> split <;> (try simp only [List.length_nil]) <;> omega
        · omega
      omega
theorem lines1_spec (o : Bool) (rs : List Rg) (s : Int) (hok : OkR rs) : Run tab 17 0 [.sl o 5 (rs.map rgV), .int .i64 s] [] 0 (fun v _ _ => v = .sl true 1 ((linesR s rs).map .str)) := by
  unfold linesR
  generalize d1 : decide (s = 1) = b1
  generalize d2 : decide (s = 2) = b2
  generalize d3 : decide (s = 3) = b3
  have hl := hok.1
  refine enter (F := f17) rfl rfl ?_
  simp only [f17, ex,reduceIte,reduceCtorEq,Nat.reduceEqDiff,Nat.reduceLT,Nat.reduceLeDiff,Nat.reduceAdd,Nat.reduceSub,Nat.reduceMul,Int.reduceAdd,Int.reduceSub,Int.reduceMul,Int.reduceNeg,Int.reduceLE,Int.reduceLT,Int.reduceEq,Int.reduceToNat]
  (try simp only [ex,reduceIte,reduceCtorEq,Nat.reduceEqDiff,Nat.reduceLT,Nat.reduceLeDiff,Nat.reduceAdd,Nat.reduceSub,Nat.reduceMul,Int.reduceAdd,Int.reduceSub,Int.reduceMul,Int.reduceNeg,Int.reduceLE,Int.reduceLT,Int.reduceEq,Int.reduceToNat]) <;> repeat ((with_reducible refine Req.intro ?_ ?_); (first | omega | (simp <;> omega)); try simp only [ex,reduceIte,reduceCtorEq,Nat.reduceEqDiff,Nat.reduceLT,Nat.reduceLeDiff,Nat.reduceAdd,Nat.reduceSub,Nat.reduceMul,Int.reduceAdd,Int.reduceSub,Int.reduceMul,Int.reduceNeg,Int.reduceLE,Int.reduceLT,Int.reduceEq,Int.reduceToNat])
  refine loopI fun L hL => ?_
  (try simp only [ex,reduceIte,reduceCtorEq,Nat.reduceEqDiff,Nat.reduceLT,Nat.reduceLeDiff,Nat.reduceAdd,Nat.reduceSub,Nat.reduceMul,Int.reduceAdd,Int.reduceSub,Int.reduceMul,Int.reduceNeg,Int.reduceLE,Int.reduceLT,Int.reduceEq,Int.reduceToNat]) <;> repeat ((with_reducible refine Req.intro ?_ ?_); (first | omega | (simp <;> omega)); try simp only [ex,reduceIte,reduceCtorEq,Nat.reduceEqDiff,Nat.reduceLT,Nat.reduceLeDiff,Nat.reduceAdd,Nat.reduceSub,Nat.reduceMul,Int.reduceAdd,Int.reduceSub,Int.reduceMul,Int.reduceNeg,Int.reduceLE,Int.reduceLT,Int.reduceEq,Int.reduceToNat])
  have key : ∀ (m i N : Nat), i + m = rs.length → L (L17_1 (.int .i64 s) (.sl true 1 ((lnR (b1 || b3) (b2 || b3) (rs.take i)).map .str)) (.sl o 5 (rs.map rgV)) (.int .i64 rs.length) (.int .i64 i) [] N) := by
    intro m
    induction m with
    | zero =>
      intro i N hi
      have k1 : decide ((i : Int) < (rs.length : Int)) = false := by simp; omega
      rw [List.take_of_length_le (by omega)]
      apply hL
      simp only [L17_1, l17_1, ex,reduceIte,reduceCtorEq,Nat.reduceEqDiff,Nat.reduceLT,Nat.reduceLeDiff,Nat.reduceAdd,Nat.reduceSub,Nat.reduceMul,Int.reduceAdd,Int.reduceSub,Int.reduceMul,Int.reduceNeg,Int.reduceLE,Int.reduceLT,Int.reduceEq,Int.reduceToNat]
      (try simp only [k1, ex,reduceIte,reduceCtorEq,Nat.reduceEqDiff,Nat.reduceLT,Nat.reduceLeDiff,Nat.reduceAdd,Nat.reduceSub,Nat.reduceMul,Int.reduceAdd,Int.reduceSub,Int.reduceMul,Int.reduceNeg,Int.reduceLE,Int.reduceLT,Int.reduceEq,Int.reduceToNat]) <;> repeat ((with_reducible refine Req.intro ?_ ?_); (first | omega | (simp <;> omega)); try simp only [k1, ex,reduceIte,reduceCtorEq,Nat.reduceEqDiff,Nat.reduceLT,Nat.reduceLeDiff,Nat.reduceAdd,Nat.reduceSub,Nat.reduceMul,Int.reduceAdd,Int.reduceSub,Int.reduceMul,Int.reduceNeg,Int.reduceLE,Int.reduceLT,Int.reduceEq,Int.reduceToNat])
    | succ m ih =>
      intro i N hi
      have k1 : decide ((i : Int) < (rs.length : Int)) = true := by simp; omega
      have g1 : rs[i]? = some (rs[i]'(by omega)) := List.getElem?_eq_getElem _
      have ht : rs.take (i + 1) = rs.take i ++ [rs[i]'(by omega)] := by rw [List.take_add_one, g1]; rfl
      have hm : rs[i]'(by omega) ∈ rs := List.getElem_mem _
      have hb := lnR_len (b1 || b3) (b2 || b3) rs hok i
      generalize rs[i]'(by omega) = r at *
      have hr := hok.2 r hm
      have hc : (rgV r).cells = [.int .i64 r.k, .sl false 1 (r.l.map .str), .sl false 1 (r.o.map .str), .sl false 1 (r.b.map .str), .sl false 1 (r.t.map .str)] := rfl
      have h9 := fun N => ih (i + 1) N (by omega)
      rw [ht, lnR_snoc] at h9
      generalize lnR (b1 || b3) (b2 || b3) (rs.take i) = acc at *
      refine Classical.byCases (p := r.k = 2) (fun e => ?_) (fun e => ?_)
      · have e1 : decide (r.k ≠ 2) = false := by simpa using e
        simp only [rgL, e, if_true] at h9
        cases b1 <;> cases b2 <;> cases b3
        all_goals
          simp only [Bool.or_self, Bool.or_true, Bool.true_or, Bool.or_false, Bool.false_or, if_true, if_false, List.nil_append, List.append_nil, List.map_append, Bool.false_eq_true, ← List.append_assoc] at h9
          apply hL
          simp only [L17_1, l17_1, ex,reduceIte,reduceCtorEq,Nat.reduceEqDiff,Nat.reduceLT,Nat.reduceLeDiff,Nat.reduceAdd,Nat.reduceSub,Nat.reduceMul,Int.reduceAdd,Int.reduceSub,Int.reduceMul,Int.reduceNeg,Int.reduceLE,Int.reduceLT,Int.reduceEq,Int.reduceToNat]
          (try simp only [k1, g1, hc, e1, d1, d2, d3, ex,reduceIte,reduceCtorEq,Nat.reduceEqDiff,Nat.reduceLT,Nat.reduceLeDiff,Nat.reduceAdd,Nat.reduceSub,Nat.reduceMul,Int.reduceAdd,Int.reduceSub,Int.reduceMul,Int.reduceNeg,Int.reduceLE,Int.reduceLT,Int.reduceEq,Int.reduceToNat]) <;> repeat ((with_reducible refine Req.intro ?_ ?_); (first | omega | (simp <;> omega)); try simp only [k1, g1, hc, e1, d1, d2, d3, ex,reduceIte,reduceCtorEq,Nat.reduceEqDiff,Nat.reduceLT,Nat.reduceLeDiff,Nat.reduceAdd,Nat.reduceSub,Nat.reduceMul,Int.reduceAdd,Int.reduceSub,Int.reduceMul,Int.reduceNeg,Int.reduceLE,Int.reduceLT,Int.reduceEq,Int.reduceToNat])
          exact h9 _
      · have e1 : decide (r.k ≠ 2) = true := by simpa using e
        simp only [rgL, e, if_false, List.map_append] at h9
        apply hL
        simp only [L17_1, l17_1, ex,reduceIte,reduceCtorEq,Nat.reduceEqDiff,Nat.reduceLT,Nat.reduceLeDiff,Nat.reduceAdd,Nat.reduceSub,Nat.reduceMul,Int.reduceAdd,Int.reduceSub,Int.reduceMul,Int.reduceNeg,Int.reduceLE,Int.reduceLT,Int.reduceEq,Int.reduceToNat]
        (try simp only [k1, g1, hc, e1, ex,reduceIte,reduceCtorEq,Nat.reduceEqDiff,Nat.reduceLT,Nat.reduceLeDiff,Nat.reduceAdd,Nat.reduceSub,Nat.reduceMul,Int.reduceAdd,Int.reduceSub,Int.reduceMul,Int.reduceNeg,Int.reduceLE,Int.reduceLT,Int.reduceEq,Int.reduceToNat]) <;> repeat ((with_reducible refine Req.intro ?_ ?_); (first | omega | (simp <;> omega)); try simp only [k1, g1, hc, e1, ex,reduceIte,reduceCtorEq,Nat.reduceEqDiff,Nat.reduceLT,Nat.reduceLeDiff,Nat.reduceAdd,Nat.reduceSub,Nat.reduceMul,Int.reduceAdd,Int.reduceSub,Int.reduceMul,Int.reduceNeg,Int.reduceLE,Int.reduceLT,Int.reduceEq,Int.reduceToNat])
        exact h9 _
  exact key rs.length 0 0 (Nat.zero_add _)
theorem lines2_spec (o : Bool) (rs : List Rg) (s : Int) (hok : OkR rs) : Run tab 18 0 [.sl o 5 (rs.map rgV), .int .i64 s] [] 0 (fun v _ _ => v = .sl true 1 ((linesR s rs).map .str)) := by
  unfold linesR
  generalize d1 : decide (s = 1) = b1
  generalize d2 : decide (s = 2) = b2
  generalize d3 : decide (s = 3) = b3
  have hl := hok.1
  refine enter (F := f18) rfl rfl ?_
  simp only [f18, ex,reduceIte,reduceCtorEq,Nat.reduceEqDiff,Nat.reduceLT,Nat.reduceLeDiff,Nat.reduceAdd,Nat.reduceSub,Nat.reduceMul,Int.reduceAdd,Int.reduceSub,Int.reduceMul,Int.reduceNeg,Int.reduceLE,Int.reduceLT,Int.reduceEq,Int.reduceToNat]
  (try simp only [ex,reduceIte,reduceCtorEq,Nat.reduceEqDiff,Nat.reduceLT,Nat.reduceLeDiff,Nat.reduceAdd,Nat.reduceSub,Nat.reduceMul,Int.reduceAdd,Int.reduceSub,Int.reduceMul,Int.reduceNeg,Int.reduceLE,Int.reduceLT,Int.reduceEq,Int.reduceToNat]) <;> repeat ((with_reducible refine Req.intro ?_ ?_); (first | omega | (simp <;> omega)); try simp only [ex,reduceIte,reduceCtorEq,Nat.reduceEqDiff,Nat.reduceLT,Nat.reduceLeDiff,Nat.reduceAdd,Nat.reduceSub,Nat.reduceMul,Int.reduceAdd,Int.reduceSub,Int.reduceMul,Int.reduceNeg,Int.reduceLE,Int.reduceLT,Int.reduceEq,Int.reduceToNat])
  refine loopI fun L hL => ?_
  (try simp only [ex,reduceIte,reduceCtorEq,Nat.reduceEqDiff,Nat.reduceLT,Nat.reduceLeDiff,Nat.reduceAdd,Nat.reduceSub,Nat.reduceMul,Int.reduceAdd,Int.reduceSub,Int.reduceMul,Int.reduceNeg,Int.reduceLE,Int.reduceLT,Int.reduceEq,Int.reduceToNat]) <;> repeat ((with_reducible refine Req.intro ?_ ?_); (first | omega | (simp <;> omega)); try simp only [ex,reduceIte,reduceCtorEq,Nat.reduceEqDiff,Nat.reduceLT,Nat.reduceLeDiff,Nat.reduceAdd,Nat.reduceSub,Nat.reduceMul,Int.reduceAdd,Int.reduceSub,Int.reduceMul,Int.reduceNeg,Int.reduceLE,Int.reduceLT,Int.reduceEq,Int.reduceToNat])
  have key : ∀ (m i : Nat), i + m = rs.length → L (L18_1 (.sl o 5 (rs.map rgV)) (.int .i64 s) (.sl true 1 ((lnR (b1 || b3) (b2 || b3) (rs.take i)).map .str)) (.int .i64 i) [] 0) := by
    intro m
    induction m with
    | zero =>
      intro i hi
      have k1 : decide ((i : Int) < (rs.length : Int)) = false := by simp; omega
      rw [List.take_of_length_le (by omega)]
      apply hL
      simp only [L18_1, l18_1, ex,reduceIte,reduceCtorEq,Nat.reduceEqDiff,Nat.reduceLT,Nat.reduceLeDiff,Nat.reduceAdd,Nat.reduceSub,Nat.reduceMul,Int.reduceAdd,Int.reduceSub,Int.reduceMul,Int.reduceNeg,Int.reduceLE,Int.reduceLT,Int.reduceEq,Int.reduceToNat]
      (try simp only [k1, ex,reduceIte,reduceCtorEq,Nat.reduceEqDiff,Nat.reduceLT,Nat.reduceLeDiff,Nat.reduceAdd,Nat.reduceSub,Nat.reduceMul,Int.reduceAdd,Int.reduceSub,Int.reduceMul,Int.reduceNeg,Int.reduceLE,Int.reduceLT,Int.reduceEq,Int.reduceToNat]) <;> repeat ((with_reducible refine Req.intro ?_ ?_); (first | omega | (simp <;> omega)); try simp only [k1, ex,reduceIte,reduceCtorEq,Nat.reduceEqDiff,Nat.reduceLT,Nat.reduceLeDiff,Nat.reduceAdd,Nat.reduceSub,Nat.reduceMul,Int.reduceAdd,Int.reduceSub,Int.reduceMul,Int.reduceNeg,Int.reduceLE,Int.reduceLT,Int.reduceEq,Int.reduceToNat])
    | succ m ih =>
      intro i hi
      have k1 : decide ((i : Int) < (rs.length : Int)) = true := by simp; omega
      have g1 : rs[i]? = some (rs[i]'(by omega)) := List.getElem?_eq_getElem _
      have ht : rs.take (i + 1) = rs.take i ++ [rs[i]'(by omega)] := by rw [List.take_add_one, g1]; rfl
      have hm : rs[i]'(by omega) ∈ rs := List.getElem_mem _
      have hb := lnR_len (b1 || b3) (b2 || b3) rs hok i
      generalize rs[i]'(by omega) = r at *
      have hr := hok.2 r hm
      have hc : (rgV r).cells = [.int .i64 r.k, .sl false 1 (r.l.map .str), .sl false 1 (r.o.map .str), .sl false 1 (r.b.map .str), .sl false 1 (r.t.map .str)] := rfl
      have h9 := ih (i + 1) (by omega)
      rw [ht, lnR_snoc] at h9
      generalize lnR (b1 || b3) (b2 || b3) (rs.take i) = acc at *
      refine Classical.byCases (p := r.k = 2) (fun e => ?_) (fun e => ?_)
      · have e1 : decide (r.k ≠ 2) = false := by simpa using e
        simp only [rgL, e, if_true] at h9
        cases b1 <;> cases b2 <;> cases b3
        all_goals
          simp only [Bool.or_self, Bool.or_true, Bool.true_or, Bool.or_false, Bool.false_or, if_true, if_false, List.nil_append, List.append_nil, List.map_append, Bool.false_eq_true, ← List.append_assoc] at h9
          apply hL
          simp only [L18_1, l18_1, ex,reduceIte,reduceCtorEq,Nat.reduceEqDiff,Nat.reduceLT,Nat.reduceLeDiff,Nat.reduceAdd,Nat.reduceSub,Nat.reduceMul,Int.reduceAdd,Int.reduceSub,Int.reduceMul,Int.reduceNeg,Int.reduceLE,Int.reduceLT,Int.reduceEq,Int.reduceToNat]
          (try simp only [k1, g1, hc, e1, d1, d2, d3, ex,reduceIte,reduceCtorEq,Nat.reduceEqDiff,Nat.reduceLT,Nat.reduceLeDiff,Nat.reduceAdd,Nat.reduceSub,Nat.reduceMul,Int.reduceAdd,Int.reduceSub,Int.reduceMul,Int.reduceNeg,Int.reduceLE,Int.reduceLT,Int.reduceEq,Int.reduceToNat]) <;> repeat ((with_reducible refine Req.intro ?_ ?_); (first | omega | (simp <;> omega)); try simp only [k1, g1, hc, e1, d1, d2, d3, ex,reduceIte,reduceCtorEq,Nat.reduceEqDiff,Nat.reduceLT,Nat.reduceLeDiff,Nat.reduceAdd,Nat.reduceSub,Nat.reduceMul,Int.reduceAdd,Int.reduceSub,Int.reduceMul,Int.reduceNeg,Int.reduceLE,Int.reduceLT,Int.reduceEq,Int.reduceToNat])
          exact h9
      · have e1 : decide (r.k ≠ 2) = true := by simpa using e
        simp only [rgL, e, if_false, List.map_append] at h9
        apply hL
        simp only [L18_1, l18_1, ex,reduceIte,reduceCtorEq,Nat.reduceEqDiff,Nat.reduceLT,Nat.reduceLeDiff,Nat.reduceAdd,Nat.reduceSub,Nat.reduceMul,Int.reduceAdd,Int.reduceSub,Int.reduceMul,Int.reduceNeg,Int.reduceLE,Int.reduceLT,Int.reduceEq,Int.reduceToNat]
        (try simp only [k1, g1, hc, e1, ex,reduceIte,reduceCtorEq,Nat.reduceEqDiff,Nat.reduceLT,Nat.reduceLeDiff,Nat.reduceAdd,Nat.reduceSub,Nat.reduceMul,Int.reduceAdd,Int.reduceSub,Int.reduceMul,Int.reduceNeg,Int.reduceLE,Int.reduceLT,Int.reduceEq,Int.reduceToNat]) <;> repeat ((with_reducible refine Req.intro ?_ ?_); (first | omega | (simp <;> omega)); try simp only [k1, g1, hc, e1, ex,reduceIte,reduceCtorEq,Nat.reduceEqDiff,Nat.reduceLT,Nat.reduceLeDiff,Nat.reduceAdd,Nat.reduceSub,Nat.reduceMul,Int.reduceAdd,Int.reduceSub,Int.reduceMul,Int.reduceNeg,Int.reduceLE,Int.reduceLT,Int.reduceEq,Int.reduceToNat])
        exact h9
  exact key rs.length 0 (Nat.zero_add _)
end Go.Proofs.Ytnodepfoahmcmaa.E.Hs

/- Chapter 12: comparing lists and regions; few. Conditions: none. -/
namespace Go.Proofs.Ytnodepfoahmcmaa.E.Hs
set_option linter.unusedVariables false
set_option linter.unusedSimpArgs false
set_option maxHeartbeats 20000000
set_option maxRecDepth 100000

theorem same6_spec (o o' : Bool) (a b : List Sx) (ha : a.length ≤ 1000000) (hb : b.length ≤ 1000000) :
    Run tab 16 0 [.sl o 1 (a.map .str), .sl o' 1 (b.map .str)] [] 0 (fun r _ _ => r = .bool (decide (a = b))) := by
  refine enter (F := f16) rfl rfl ?_
  simp only [f16, ex,reduceIte,reduceCtorEq,Nat.reduceEqDiff,Nat.reduceLT,Nat.reduceLeDiff,Nat.reduceAdd,Nat.reduceSub,Nat.reduceMul,Int.reduceAdd,Int.reduceSub,Int.reduceMul,Int.reduceNeg,Int.reduceLE,Int.reduceLT,Int.reduceEq,Int.reduceToNat]
  rcases Classical.em (a.length = b.length) with c | c
  · have h0 : decide ((a.length : Int) = (b.length : Int)) = true := by simp; omega
    (try simp only [h0, ex,reduceIte,reduceCtorEq,Nat.reduceEqDiff,Nat.reduceLT,Nat.reduceLeDiff,Nat.reduceAdd,Nat.reduceSub,Nat.reduceMul,Int.reduceAdd,Int.reduceSub,Int.reduceMul,Int.reduceNeg,Int.reduceLE,Int.reduceLT,Int.reduceEq,Int.reduceToNat]) <;> repeat ((with_reducible refine Req.intro ?_ ?_); (first | omega | (simp <;> omega)); try simp only [h0, ex,reduceIte,reduceCtorEq,Nat.reduceEqDiff,Nat.reduceLT,Nat.reduceLeDiff,Nat.reduceAdd,Nat.reduceSub,Nat.reduceMul,Int.reduceAdd,Int.reduceSub,Int.reduceMul,Int.reduceNeg,Int.reduceLE,Int.reduceLT,Int.reduceEq,Int.reduceToNat])
    refine loopI fun L hL => ?_
    (try simp only [ex,reduceIte,reduceCtorEq,Nat.reduceEqDiff,Nat.reduceLT,Nat.reduceLeDiff,Nat.reduceAdd,Nat.reduceSub,Nat.reduceMul,Int.reduceAdd,Int.reduceSub,Int.reduceMul,Int.reduceNeg,Int.reduceLE,Int.reduceLT,Int.reduceEq,Int.reduceToNat]) <;> repeat ((with_reducible refine Req.intro ?_ ?_); (first | omega | (simp <;> omega)); try simp only [ex,reduceIte,reduceCtorEq,Nat.reduceEqDiff,Nat.reduceLT,Nat.reduceLeDiff,Nat.reduceAdd,Nat.reduceSub,Nat.reduceMul,Int.reduceAdd,Int.reduceSub,Int.reduceMul,Int.reduceNeg,Int.reduceLE,Int.reduceLT,Int.reduceEq,Int.reduceToNat])
    have key : ∀ m i : Nat, i + m = a.length → a.take i = b.take i → L (L16_1 (.sl o 1 (a.map .str)) (.sl o' 1 (b.map .str)) (.int .i64 i) [] 0) := by
      intro m
      induction m with
      | zero =>
        intro i hi he
        apply hL
        simp only [L16_1, l16_1, ex,reduceIte,reduceCtorEq,Nat.reduceEqDiff,Nat.reduceLT,Nat.reduceLeDiff,Nat.reduceAdd,Nat.reduceSub,Nat.reduceMul,Int.reduceAdd,Int.reduceSub,Int.reduceMul,Int.reduceNeg,Int.reduceLE,Int.reduceLT,Int.reduceEq,Int.reduceToNat]
        have h1 : decide ((i : Int) < (a.length : Int)) = false := by simp; omega
        have hab : decide (a = b) = true := by
          rw [List.take_of_length_le (by omega), List.take_of_length_le (by omega)] at he
          simpa using he
        rw [hab]
        (try simp only [h1, ex,reduceIte,reduceCtorEq,Nat.reduceEqDiff,Nat.reduceLT,Nat.reduceLeDiff,Nat.reduceAdd,Nat.reduceSub,Nat.reduceMul,Int.reduceAdd,Int.reduceSub,Int.reduceMul,Int.reduceNeg,Int.reduceLE,Int.reduceLT,Int.reduceEq,Int.reduceToNat]) <;> repeat ((with_reducible refine Req.intro ?_ ?_); (first | omega | (simp <;> omega)); try simp only [h1, ex,reduceIte,reduceCtorEq,Nat.reduceEqDiff,Nat.reduceLT,Nat.reduceLeDiff,Nat.reduceAdd,Nat.reduceSub,Nat.reduceMul,Int.reduceAdd,Int.reduceSub,Int.reduceMul,Int.reduceNeg,Int.reduceLE,Int.reduceLT,Int.reduceEq,Int.reduceToNat])
      | succ m ih =>
        intro i hi he
        have h1 : decide ((i : Int) < (a.length : Int)) = true := by simp; omega
        have g1 : a[i]? = some (a[i]'(by omega)) := List.getElem?_eq_getElem _
        have g2 : b[i]? = some (b[i]'(by omega)) := List.getElem?_eq_getElem _
        generalize hx : a[i]'(by omega) = x at g1
        generalize hy : b[i]'(by omega) = y at g2
        rcases Classical.em (x = y) with e | e
        · have h2 : decide (x = y) = true := by simpa using e
          have h9 := ih (i + 1) (by omega) (by rw [List.take_add_one, List.take_add_one, g1, g2, he, e])
          apply hL
          simp only [L16_1, l16_1, ex,reduceIte,reduceCtorEq,Nat.reduceEqDiff,Nat.reduceLT,Nat.reduceLeDiff,Nat.reduceAdd,Nat.reduceSub,Nat.reduceMul,Int.reduceAdd,Int.reduceSub,Int.reduceMul,Int.reduceNeg,Int.reduceLE,Int.reduceLT,Int.reduceEq,Int.reduceToNat]
          (try simp only [h1, g1, g2, h2, ex,reduceIte,reduceCtorEq,Nat.reduceEqDiff,Nat.reduceLT,Nat.reduceLeDiff,Nat.reduceAdd,Nat.reduceSub,Nat.reduceMul,Int.reduceAdd,Int.reduceSub,Int.reduceMul,Int.reduceNeg,Int.reduceLE,Int.reduceLT,Int.reduceEq,Int.reduceToNat]) <;> repeat ((with_reducible refine Req.intro ?_ ?_); (first | omega | (simp <;> omega)); try simp only [h1, g1, g2, h2, ex,reduceIte,reduceCtorEq,Nat.reduceEqDiff,Nat.reduceLT,Nat.reduceLeDiff,Nat.reduceAdd,Nat.reduceSub,Nat.reduceMul,Int.reduceAdd,Int.reduceSub,Int.reduceMul,Int.reduceNeg,Int.reduceLE,Int.reduceLT,Int.reduceEq,Int.reduceToNat])
          exact h9
        · have h2 : decide (x = y) = false := by simpa using e
          have hab : decide (a = b) = false := by
            have : ¬ a = b := fun q => by
              rw [q, g2] at g1
              injection g1 with g1
              exact e g1.symm
            simpa using this
          apply hL
          simp only [L16_1, l16_1, ex,reduceIte,reduceCtorEq,Nat.reduceEqDiff,Nat.reduceLT,Nat.reduceLeDiff,Nat.reduceAdd,Nat.reduceSub,Nat.reduceMul,Int.reduceAdd,Int.reduceSub,Int.reduceMul,Int.reduceNeg,Int.reduceLE,Int.reduceLT,Int.reduceEq,Int.reduceToNat]
          rw [hab]
          (try simp only [h1, g1, g2, h2, ex,reduceIte,reduceCtorEq,Nat.reduceEqDiff,Nat.reduceLT,Nat.reduceLeDiff,Nat.reduceAdd,Nat.reduceSub,Nat.reduceMul,Int.reduceAdd,Int.reduceSub,Int.reduceMul,Int.reduceNeg,Int.reduceLE,Int.reduceLT,Int.reduceEq,Int.reduceToNat]) <;> repeat ((with_reducible refine Req.intro ?_ ?_); (first | omega | (simp <;> omega)); try simp only [h1, g1, g2, h2, ex,reduceIte,reduceCtorEq,Nat.reduceEqDiff,Nat.reduceLT,Nat.reduceLeDiff,Nat.reduceAdd,Nat.reduceSub,Nat.reduceMul,Int.reduceAdd,Int.reduceSub,Int.reduceMul,Int.reduceNeg,Int.reduceLE,Int.reduceLT,Int.reduceEq,Int.reduceToNat])
    exact key a.length 0 (Nat.zero_add _) (by simp)
  · have h0 : decide ((a.length : Int) = (b.length : Int)) = false := by simp; omega
    have hab : decide (a = b) = false := by
      have : ¬ a = b := fun q => c (by rw [q])
      simpa using this
    rw [hab]
    (try simp only [h0, ex,reduceIte,reduceCtorEq,Nat.reduceEqDiff,Nat.reduceLT,Nat.reduceLeDiff,Nat.reduceAdd,Nat.reduceSub,Nat.reduceMul,Int.reduceAdd,Int.reduceSub,Int.reduceMul,Int.reduceNeg,Int.reduceLE,Int.reduceLT,Int.reduceEq,Int.reduceToNat]) <;> repeat ((with_reducible refine Req.intro ?_ ?_); (first | omega | (simp <;> omega)); try simp only [h0, ex,reduceIte,reduceCtorEq,Nat.reduceEqDiff,Nat.reduceLT,Nat.reduceLeDiff,Nat.reduceAdd,Nat.reduceSub,Nat.reduceMul,Int.reduceAdd,Int.reduceSub,Int.reduceMul,Int.reduceNeg,Int.reduceLE,Int.reduceLT,Int.reduceEq,Int.reduceToNat])
theorem same6_self (o o' : Bool) (a : List Sx) (ha : a.length ≤ 1000000) : Run tab 16 0 [.sl o 1 (a.map .str), .sl o' 1 (a.map .str)] [] 0 (fun r _ _ => r = .bool true) := by
  have := same6_spec o o' a a ha ha
  rw [decide_eq_true (rfl : a = a)] at this
  exact this
theorem sameR_self (o o' : Bool) (rs : List Rg) (hok : OkR rs) : Run tab 11 0 [.sl o 5 (rs.map rgV), .sl o' 5 (rs.map rgV)] [] 0 (fun r _ _ => r = .bool true) := by
  have hl := hok.1
  refine enter (F := f11) rfl rfl ?_
  simp only [f11, ex,reduceIte,reduceCtorEq,Nat.reduceEqDiff,Nat.reduceLT,Nat.reduceLeDiff,Nat.reduceAdd,Nat.reduceSub,Nat.reduceMul,Int.reduceAdd,Int.reduceSub,Int.reduceMul,Int.reduceNeg,Int.reduceLE,Int.reduceLT,Int.reduceEq,Int.reduceToNat]
  have h0 : decide ((rs.length : Int) = (rs.length : Int)) = true := by simp
  (try simp only [h0, ex,reduceIte,reduceCtorEq,Nat.reduceEqDiff,Nat.reduceLT,Nat.reduceLeDiff,Nat.reduceAdd,Nat.reduceSub,Nat.reduceMul,Int.reduceAdd,Int.reduceSub,Int.reduceMul,Int.reduceNeg,Int.reduceLE,Int.reduceLT,Int.reduceEq,Int.reduceToNat]) <;> repeat ((with_reducible refine Req.intro ?_ ?_); (first | omega | (simp <;> omega)); try simp only [h0, ex,reduceIte,reduceCtorEq,Nat.reduceEqDiff,Nat.reduceLT,Nat.reduceLeDiff,Nat.reduceAdd,Nat.reduceSub,Nat.reduceMul,Int.reduceAdd,Int.reduceSub,Int.reduceMul,Int.reduceNeg,Int.reduceLE,Int.reduceLT,Int.reduceEq,Int.reduceToNat])
  refine loopI fun L hL => ?_
  (try simp only [ex,reduceIte,reduceCtorEq,Nat.reduceEqDiff,Nat.reduceLT,Nat.reduceLeDiff,Nat.reduceAdd,Nat.reduceSub,Nat.reduceMul,Int.reduceAdd,Int.reduceSub,Int.reduceMul,Int.reduceNeg,Int.reduceLE,Int.reduceLT,Int.reduceEq,Int.reduceToNat]) <;> repeat ((with_reducible refine Req.intro ?_ ?_); (first | omega | (simp <;> omega)); try simp only [ex,reduceIte,reduceCtorEq,Nat.reduceEqDiff,Nat.reduceLT,Nat.reduceLeDiff,Nat.reduceAdd,Nat.reduceSub,Nat.reduceMul,Int.reduceAdd,Int.reduceSub,Int.reduceMul,Int.reduceNeg,Int.reduceLE,Int.reduceLT,Int.reduceEq,Int.reduceToNat])
  have key : ∀ m i : Nat, i + m = rs.length → L (L11_1 (.sl o 5 (rs.map rgV)) (.sl o' 5 (rs.map rgV)) (.int .i64 i) [] 0) := by
    intro m
    induction m with
    | zero =>
      intro i hi
      have h1 : decide ((i : Int) < (rs.length : Int)) = false := by simp; omega
      apply hL
      simp only [L11_1, l11_1, ex,reduceIte,reduceCtorEq,Nat.reduceEqDiff,Nat.reduceLT,Nat.reduceLeDiff,Nat.reduceAdd,Nat.reduceSub,Nat.reduceMul,Int.reduceAdd,Int.reduceSub,Int.reduceMul,Int.reduceNeg,Int.reduceLE,Int.reduceLT,Int.reduceEq,Int.reduceToNat]
      (try simp only [h1, ex,reduceIte,reduceCtorEq,Nat.reduceEqDiff,Nat.reduceLT,Nat.reduceLeDiff,Nat.reduceAdd,Nat.reduceSub,Nat.reduceMul,Int.reduceAdd,Int.reduceSub,Int.reduceMul,Int.reduceNeg,Int.reduceLE,Int.reduceLT,Int.reduceEq,Int.reduceToNat]) <;> repeat ((with_reducible refine Req.intro ?_ ?_); (first | omega | (simp <;> omega)); try simp only [h1, ex,reduceIte,reduceCtorEq,Nat.reduceEqDiff,Nat.reduceLT,Nat.reduceLeDiff,Nat.reduceAdd,Nat.reduceSub,Nat.reduceMul,Int.reduceAdd,Int.reduceSub,Int.reduceMul,Int.reduceNeg,Int.reduceLE,Int.reduceLT,Int.reduceEq,Int.reduceToNat])
    | succ m ih =>
      intro i hi
      have h1 : decide ((i : Int) < (rs.length : Int)) = true := by simp; omega
      have g1 : rs[i]? = some (rs[i]'(by omega)) := List.getElem?_eq_getElem _
      have hm : rs[i]'(by omega) ∈ rs := List.getElem_mem _
      generalize rs[i]'(by omega) = r at *
      have hr := hok.2 r hm
      have hc : (rgV r).cells = [.int .i64 r.k, .sl false 1 (r.l.map .str), .sl false 1 (r.o.map .str), .sl false 1 (r.b.map .str), .sl false 1 (r.t.map .str)] := rfl
      have d1 : decide (r.k = r.k) = true := by simp
      have h9 := ih (i + 1) (by omega)
      apply hL
      simp only [L11_1, l11_1, ex,reduceIte,reduceCtorEq,Nat.reduceEqDiff,Nat.reduceLT,Nat.reduceLeDiff,Nat.reduceAdd,Nat.reduceSub,Nat.reduceMul,Int.reduceAdd,Int.reduceSub,Int.reduceMul,Int.reduceNeg,Int.reduceLE,Int.reduceLT,Int.reduceEq,Int.reduceToNat]
      (try simp only [h1, g1, hc, d1, ex,reduceIte,reduceCtorEq,Nat.reduceEqDiff,Nat.reduceLT,Nat.reduceLeDiff,Nat.reduceAdd,Nat.reduceSub,Nat.reduceMul,Int.reduceAdd,Int.reduceSub,Int.reduceMul,Int.reduceNeg,Int.reduceLE,Int.reduceLT,Int.reduceEq,Int.reduceToNat]) <;> repeat ((with_reducible refine Req.intro ?_ ?_); (first | omega | (simp <;> omega)); try simp only [h1, g1, hc, d1, ex,reduceIte,reduceCtorEq,Nat.reduceEqDiff,Nat.reduceLT,Nat.reduceLeDiff,Nat.reduceAdd,Nat.reduceSub,Nat.reduceMul,Int.reduceAdd,Int.reduceSub,Int.reduceMul,Int.reduceNeg,Int.reduceLE,Int.reduceLT,Int.reduceEq,Int.reduceToNat])
      refine CallA.eq rfl (same6_self _ _ r.l (by omega)) rfl ?_
      (try simp only [ex,reduceIte,reduceCtorEq,Nat.reduceEqDiff,Nat.reduceLT,Nat.reduceLeDiff,Nat.reduceAdd,Nat.reduceSub,Nat.reduceMul,Int.reduceAdd,Int.reduceSub,Int.reduceMul,Int.reduceNeg,Int.reduceLE,Int.reduceLT,Int.reduceEq,Int.reduceToNat]) <;> repeat ((with_reducible refine Req.intro ?_ ?_); (first | omega | (simp <;> omega)); try simp only [ex,reduceIte,reduceCtorEq,Nat.reduceEqDiff,Nat.reduceLT,Nat.reduceLeDiff,Nat.reduceAdd,Nat.reduceSub,Nat.reduceMul,Int.reduceAdd,Int.reduceSub,Int.reduceMul,Int.reduceNeg,Int.reduceLE,Int.reduceLT,Int.reduceEq,Int.reduceToNat])
      refine CallA.eq rfl (same6_self _ _ r.o (by omega)) rfl ?_
      (try simp only [ex,reduceIte,reduceCtorEq,Nat.reduceEqDiff,Nat.reduceLT,Nat.reduceLeDiff,Nat.reduceAdd,Nat.reduceSub,Nat.reduceMul,Int.reduceAdd,Int.reduceSub,Int.reduceMul,Int.reduceNeg,Int.reduceLE,Int.reduceLT,Int.reduceEq,Int.reduceToNat]) <;> repeat ((with_reducible refine Req.intro ?_ ?_); (first | omega | (simp <;> omega)); try simp only [ex,reduceIte,reduceCtorEq,Nat.reduceEqDiff,Nat.reduceLT,Nat.reduceLeDiff,Nat.reduceAdd,Nat.reduceSub,Nat.reduceMul,Int.reduceAdd,Int.reduceSub,Int.reduceMul,Int.reduceNeg,Int.reduceLE,Int.reduceLT,Int.reduceEq,Int.reduceToNat])
      refine CallA.eq rfl (same6_self _ _ r.b (by omega)) rfl ?_
      (try simp only [ex,reduceIte,reduceCtorEq,Nat.reduceEqDiff,Nat.reduceLT,Nat.reduceLeDiff,Nat.reduceAdd,Nat.reduceSub,Nat.reduceMul,Int.reduceAdd,Int.reduceSub,Int.reduceMul,Int.reduceNeg,Int.reduceLE,Int.reduceLT,Int.reduceEq,Int.reduceToNat]) <;> repeat ((with_reducible refine Req.intro ?_ ?_); (first | omega | (simp <;> omega)); try simp only [ex,reduceIte,reduceCtorEq,Nat.reduceEqDiff,Nat.reduceLT,Nat.reduceLeDiff,Nat.reduceAdd,Nat.reduceSub,Nat.reduceMul,Int.reduceAdd,Int.reduceSub,Int.reduceMul,Int.reduceNeg,Int.reduceLE,Int.reduceLT,Int.reduceEq,Int.reduceToNat])
      refine CallA.eq rfl (same6_self _ _ r.t (by omega)) rfl ?_
      (try simp only [ex,reduceIte,reduceCtorEq,Nat.reduceEqDiff,Nat.reduceLT,Nat.reduceLeDiff,Nat.reduceAdd,Nat.reduceSub,Nat.reduceMul,Int.reduceAdd,Int.reduceSub,Int.reduceMul,Int.reduceNeg,Int.reduceLE,Int.reduceLT,Int.reduceEq,Int.reduceToNat]) <;> repeat ((with_reducible refine Req.intro ?_ ?_); (first | omega | (simp <;> omega)); try simp only [ex,reduceIte,reduceCtorEq,Nat.reduceEqDiff,Nat.reduceLT,Nat.reduceLeDiff,Nat.reduceAdd,Nat.reduceSub,Nat.reduceMul,Int.reduceAdd,Int.reduceSub,Int.reduceMul,Int.reduceNeg,Int.reduceLE,Int.reduceLT,Int.reduceEq,Int.reduceToNat])
      exact h9
  exact key rs.length 0 (Nat.zero_add _)
def fewR (r : Rg) : Bool := (decide (r.k = 1) || decide (r.k = 2)) && small r.l && small r.o && small r.b && small r.t
def few (rs : List Rg) : Bool := decide (rs.length ≤ 30) && rs.all fewR
theorem small_len {a : List Sx} (h : small a = true) : a.length ≤ 60 ∧ ∀ s ∈ a, s.length ≤ 200 := by
  unfold small at h
  rw [Bool.and_eq_true, List.all_eq_true] at h
  exact ⟨by simpa using h.1, fun s hs => by simpa using h.2 s hs⟩
theorem few_ok {rs : List Rg} (h : few rs = true) : OkR rs := by
  unfold few at h
  rw [Bool.and_eq_true, List.all_eq_true] at h
  have hl : rs.length ≤ 30 := by simpa using h.1
  refine ⟨by omega, fun r hr => ?_⟩
  have := h.2 r hr
  unfold fewR at this
  simp only [Bool.and_eq_true] at this
  have a1 := (small_len this.1.1.1.2).1
  have a2 := (small_len this.1.1.2).1
  have a3 := (small_len this.1.2).1
  have a4 := (small_len this.2).1
  omega
theorem few_spec (o : Bool) (rs : List Rg) (hl : rs.length ≤ 17592186044416) (hg : ∀ r ∈ rs, r.l.length ≤ 17592186044416 ∧ r.o.length ≤ 17592186044416 ∧ r.b.length ≤ 17592186044416 ∧ r.t.length ≤ 17592186044416) :
    Run tab 15 0 [.sl o 5 (rs.map rgV)] [] 0 (fun r _ _ => r = .bool (few rs)) := by
  refine enter (F := f15) rfl rfl ?_
  simp only [f15, ex,reduceIte,reduceCtorEq,Nat.reduceEqDiff,Nat.reduceLT,Nat.reduceLeDiff,Nat.reduceAdd,Nat.reduceSub,Nat.reduceMul,Int.reduceAdd,Int.reduceSub,Int.reduceMul,Int.reduceNeg,Int.reduceLE,Int.reduceLT,Int.reduceEq,Int.reduceToNat]
  rcases Classical.em (rs.length ≤ 30) with c | c
  · have h0 : decide ((rs.length : Int) > 30) = false := by simp; omega
    (try simp only [h0, ex,reduceIte,reduceCtorEq,Nat.reduceEqDiff,Nat.reduceLT,Nat.reduceLeDiff,Nat.reduceAdd,Nat.reduceSub,Nat.reduceMul,Int.reduceAdd,Int.reduceSub,Int.reduceMul,Int.reduceNeg,Int.reduceLE,Int.reduceLT,Int.reduceEq,Int.reduceToNat]) <;> repeat ((with_reducible refine Req.intro ?_ ?_); (first | omega | (simp <;> omega)); try simp only [h0, ex,reduceIte,reduceCtorEq,Nat.reduceEqDiff,Nat.reduceLT,Nat.reduceLeDiff,Nat.reduceAdd,Nat.reduceSub,Nat.reduceMul,Int.reduceAdd,Int.reduceSub,Int.reduceMul,Int.reduceNeg,Int.reduceLE,Int.reduceLT,Int.reduceEq,Int.reduceToNat])
    refine loopI fun L hL => ?_
    (try simp only [ex,reduceIte,reduceCtorEq,Nat.reduceEqDiff,Nat.reduceLT,Nat.reduceLeDiff,Nat.reduceAdd,Nat.reduceSub,Nat.reduceMul,Int.reduceAdd,Int.reduceSub,Int.reduceMul,Int.reduceNeg,Int.reduceLE,Int.reduceLT,Int.reduceEq,Int.reduceToNat]) <;> repeat ((with_reducible refine Req.intro ?_ ?_); (first | omega | (simp <;> omega)); try simp only [ex,reduceIte,reduceCtorEq,Nat.reduceEqDiff,Nat.reduceLT,Nat.reduceLeDiff,Nat.reduceAdd,Nat.reduceSub,Nat.reduceMul,Int.reduceAdd,Int.reduceSub,Int.reduceMul,Int.reduceNeg,Int.reduceLE,Int.reduceLT,Int.reduceEq,Int.reduceToNat])
    have hf : few rs = rs.all fewR := by unfold few; rw [decide_eq_true c]; rfl
    have key : ∀ m i : Nat, i + m = rs.length → (rs.take i).all fewR = true → L (L15_1 (.sl o 5 (rs.map rgV)) (.int .i64 i) [] 0) := by
      intro m
      induction m with
      | zero =>
        intro i hi ha
        have h1 : decide ((i : Int) < (rs.length : Int)) = false := by simp; omega
        rw [List.take_of_length_le (by omega)] at ha
        apply hL
        simp only [L15_1, l15_1, ex,reduceIte,reduceCtorEq,Nat.reduceEqDiff,Nat.reduceLT,Nat.reduceLeDiff,Nat.reduceAdd,Nat.reduceSub,Nat.reduceMul,Int.reduceAdd,Int.reduceSub,Int.reduceMul,Int.reduceNeg,Int.reduceLE,Int.reduceLT,Int.reduceEq,Int.reduceToNat]
        (try simp only [h1, ex,reduceIte,reduceCtorEq,Nat.reduceEqDiff,Nat.reduceLT,Nat.reduceLeDiff,Nat.reduceAdd,Nat.reduceSub,Nat.reduceMul,Int.reduceAdd,Int.reduceSub,Int.reduceMul,Int.reduceNeg,Int.reduceLE,Int.reduceLT,Int.reduceEq,Int.reduceToNat]) <;> repeat ((with_reducible refine Req.intro ?_ ?_); (first | omega | (simp <;> omega)); try simp only [h1, ex,reduceIte,reduceCtorEq,Nat.reduceEqDiff,Nat.reduceLT,Nat.reduceLeDiff,Nat.reduceAdd,Nat.reduceSub,Nat.reduceMul,Int.reduceAdd,Int.reduceSub,Int.reduceMul,Int.reduceNeg,Int.reduceLE,Int.reduceLT,Int.reduceEq,Int.reduceToNat])
        rw [hf, ha]
      | succ m ih =>
        intro i hi ha
        have h1 : decide ((i : Int) < (rs.length : Int)) = true := by simp; omega
        have g1 : rs[i]? = some (rs[i]'(by omega)) := List.getElem?_eq_getElem _
        have ht : rs.take (i + 1) = rs.take i ++ [rs[i]'(by omega)] := by rw [List.take_add_one, g1]; rfl
        have hm : rs[i]'(by omega) ∈ rs := List.getElem_mem _
        generalize rs[i]'(by omega) = r at *
        have hr := hg r hm
        have hc : (rgV r).cells = [.int .i64 r.k, .sl false 1 (r.l.map .str), .sl false 1 (r.o.map .str), .sl false 1 (r.b.map .str), .sl false 1 (r.t.map .str)] := rfl
        have h9 : fewR r = true → L (L15_1 (.sl o 5 (rs.map rgV)) (.int .i64 ((i : Int) + 1)) [] 0) := fun q => ih (i + 1) (by omega) (by rw [ht, List.all_append, ha]; simp [q])
        have hno : fewR r = false → few rs = false := fun q => by
          rw [hf]
          exact List.all_eq_false.2 ⟨r, hm, by rw [q]; simp⟩
        rcases Classical.em (r.k = 1) with e | e
        · have d1 : decide (r.k = 1) = true := by simpa using e
          have hfr : fewR r = (small r.l && small r.o && small r.b && small r.t) := by simp [fewR, e]
          rw [hfr] at h9 hno
          apply hL
          simp only [L15_1, l15_1, ex,reduceIte,reduceCtorEq,Nat.reduceEqDiff,Nat.reduceLT,Nat.reduceLeDiff,Nat.reduceAdd,Nat.reduceSub,Nat.reduceMul,Int.reduceAdd,Int.reduceSub,Int.reduceMul,Int.reduceNeg,Int.reduceLE,Int.reduceLT,Int.reduceEq,Int.reduceToNat]
          (try simp only [h1, g1, hc, d1, ex,reduceIte,reduceCtorEq,Nat.reduceEqDiff,Nat.reduceLT,Nat.reduceLeDiff,Nat.reduceAdd,Nat.reduceSub,Nat.reduceMul,Int.reduceAdd,Int.reduceSub,Int.reduceMul,Int.reduceNeg,Int.reduceLE,Int.reduceLT,Int.reduceEq,Int.reduceToNat]) <;> repeat ((with_reducible refine Req.intro ?_ ?_); (first | omega | (simp <;> omega)); try simp only [h1, g1, hc, d1, ex,reduceIte,reduceCtorEq,Nat.reduceEqDiff,Nat.reduceLT,Nat.reduceLeDiff,Nat.reduceAdd,Nat.reduceSub,Nat.reduceMul,Int.reduceAdd,Int.reduceSub,Int.reduceMul,Int.reduceNeg,Int.reduceLE,Int.reduceLT,Int.reduceEq,Int.reduceToNat])
          refine CallA.eq rfl (small_spec _ r.l hr.1) rfl ?_
          cases s1 : small r.l with
          | false =>
            (try simp only [ex,reduceIte,reduceCtorEq,Nat.reduceEqDiff,Nat.reduceLT,Nat.reduceLeDiff,Nat.reduceAdd,Nat.reduceSub,Nat.reduceMul,Int.reduceAdd,Int.reduceSub,Int.reduceMul,Int.reduceNeg,Int.reduceLE,Int.reduceLT,Int.reduceEq,Int.reduceToNat]) <;> repeat ((with_reducible refine Req.intro ?_ ?_); (first | omega | (simp <;> omega)); try simp only [ex,reduceIte,reduceCtorEq,Nat.reduceEqDiff,Nat.reduceLT,Nat.reduceLeDiff,Nat.reduceAdd,Nat.reduceSub,Nat.reduceMul,Int.reduceAdd,Int.reduceSub,Int.reduceMul,Int.reduceNeg,Int.reduceLE,Int.reduceLT,Int.reduceEq,Int.reduceToNat])
            rw [hno (by rw [s1]; rfl)]
          | true =>
            (try simp only [g1, hc, ex,reduceIte,reduceCtorEq,Nat.reduceEqDiff,Nat.reduceLT,Nat.reduceLeDiff,Nat.reduceAdd,Nat.reduceSub,Nat.reduceMul,Int.reduceAdd,Int.reduceSub,Int.reduceMul,Int.reduceNeg,Int.reduceLE,Int.reduceLT,Int.reduceEq,Int.reduceToNat]) <;> repeat ((with_reducible refine Req.intro ?_ ?_); (first | omega | (simp <;> omega)); try simp only [g1, hc, ex,reduceIte,reduceCtorEq,Nat.reduceEqDiff,Nat.reduceLT,Nat.reduceLeDiff,Nat.reduceAdd,Nat.reduceSub,Nat.reduceMul,Int.reduceAdd,Int.reduceSub,Int.reduceMul,Int.reduceNeg,Int.reduceLE,Int.reduceLT,Int.reduceEq,Int.reduceToNat])
            refine CallA.eq rfl (small_spec _ r.o hr.2.1) rfl ?_
            cases s2 : small r.o with
            | false =>
              (try simp only [ex,reduceIte,reduceCtorEq,Nat.reduceEqDiff,Nat.reduceLT,Nat.reduceLeDiff,Nat.reduceAdd,Nat.reduceSub,Nat.reduceMul,Int.reduceAdd,Int.reduceSub,Int.reduceMul,Int.reduceNeg,Int.reduceLE,Int.reduceLT,Int.reduceEq,Int.reduceToNat]) <;> repeat ((with_reducible refine Req.intro ?_ ?_); (first | omega | (simp <;> omega)); try simp only [ex,reduceIte,reduceCtorEq,Nat.reduceEqDiff,Nat.reduceLT,Nat.reduceLeDiff,Nat.reduceAdd,Nat.reduceSub,Nat.reduceMul,Int.reduceAdd,Int.reduceSub,Int.reduceMul,Int.reduceNeg,Int.reduceLE,Int.reduceLT,Int.reduceEq,Int.reduceToNat])
              rw [hno (by rw [s1, s2]; rfl)]
            | true =>
              (try simp only [g1, hc, ex,reduceIte,reduceCtorEq,Nat.reduceEqDiff,Nat.reduceLT,Nat.reduceLeDiff,Nat.reduceAdd,Nat.reduceSub,Nat.reduceMul,Int.reduceAdd,Int.reduceSub,Int.reduceMul,Int.reduceNeg,Int.reduceLE,Int.reduceLT,Int.reduceEq,Int.reduceToNat]) <;> repeat ((with_reducible refine Req.intro ?_ ?_); (first | omega | (simp <;> omega)); try simp only [g1, hc, ex,reduceIte,reduceCtorEq,Nat.reduceEqDiff,Nat.reduceLT,Nat.reduceLeDiff,Nat.reduceAdd,Nat.reduceSub,Nat.reduceMul,Int.reduceAdd,Int.reduceSub,Int.reduceMul,Int.reduceNeg,Int.reduceLE,Int.reduceLT,Int.reduceEq,Int.reduceToNat])
              refine CallA.eq rfl (small_spec _ r.b hr.2.2.1) rfl ?_
              cases s3 : small r.b with
              | false =>
                (try simp only [ex,reduceIte,reduceCtorEq,Nat.reduceEqDiff,Nat.reduceLT,Nat.reduceLeDiff,Nat.reduceAdd,Nat.reduceSub,Nat.reduceMul,Int.reduceAdd,Int.reduceSub,Int.reduceMul,Int.reduceNeg,Int.reduceLE,Int.reduceLT,Int.reduceEq,Int.reduceToNat]) <;> repeat ((with_reducible refine Req.intro ?_ ?_); (first | omega | (simp <;> omega)); try simp only [ex,reduceIte,reduceCtorEq,Nat.reduceEqDiff,Nat.reduceLT,Nat.reduceLeDiff,Nat.reduceAdd,Nat.reduceSub,Nat.reduceMul,Int.reduceAdd,Int.reduceSub,Int.reduceMul,Int.reduceNeg,Int.reduceLE,Int.reduceLT,Int.reduceEq,Int.reduceToNat])
                rw [hno (by rw [s1, s2, s3]; rfl)]
              | true =>
                (try simp only [g1, hc, ex,reduceIte,reduceCtorEq,Nat.reduceEqDiff,Nat.reduceLT,Nat.reduceLeDiff,Nat.reduceAdd,Nat.reduceSub,Nat.reduceMul,Int.reduceAdd,Int.reduceSub,Int.reduceMul,Int.reduceNeg,Int.reduceLE,Int.reduceLT,Int.reduceEq,Int.reduceToNat]) <;> repeat ((with_reducible refine Req.intro ?_ ?_); (first | omega | (simp <;> omega)); try simp only [g1, hc, ex,reduceIte,reduceCtorEq,Nat.reduceEqDiff,Nat.reduceLT,Nat.reduceLeDiff,Nat.reduceAdd,Nat.reduceSub,Nat.reduceMul,Int.reduceAdd,Int.reduceSub,Int.reduceMul,Int.reduceNeg,Int.reduceLE,Int.reduceLT,Int.reduceEq,Int.reduceToNat])
                refine CallA.eq rfl (small_spec _ r.t hr.2.2.2) rfl ?_
                cases s4 : small r.t with
                | false =>
                  (try simp only [ex,reduceIte,reduceCtorEq,Nat.reduceEqDiff,Nat.reduceLT,Nat.reduceLeDiff,Nat.reduceAdd,Nat.reduceSub,Nat.reduceMul,Int.reduceAdd,Int.reduceSub,Int.reduceMul,Int.reduceNeg,Int.reduceLE,Int.reduceLT,Int.reduceEq,Int.reduceToNat]) <;> repeat ((with_reducible refine Req.intro ?_ ?_); (first | omega | (simp <;> omega)); try simp only [ex,reduceIte,reduceCtorEq,Nat.reduceEqDiff,Nat.reduceLT,Nat.reduceLeDiff,Nat.reduceAdd,Nat.reduceSub,Nat.reduceMul,Int.reduceAdd,Int.reduceSub,Int.reduceMul,Int.reduceNeg,Int.reduceLE,Int.reduceLT,Int.reduceEq,Int.reduceToNat])
                  rw [hno (by rw [s1, s2, s3, s4]; rfl)]
                | true =>
                  (try simp only [ex,reduceIte,reduceCtorEq,Nat.reduceEqDiff,Nat.reduceLT,Nat.reduceLeDiff,Nat.reduceAdd,Nat.reduceSub,Nat.reduceMul,Int.reduceAdd,Int.reduceSub,Int.reduceMul,Int.reduceNeg,Int.reduceLE,Int.reduceLT,Int.reduceEq,Int.reduceToNat]) <;> repeat ((with_reducible refine Req.intro ?_ ?_); (first | omega | (simp <;> omega)); try simp only [ex,reduceIte,reduceCtorEq,Nat.reduceEqDiff,Nat.reduceLT,Nat.reduceLeDiff,Nat.reduceAdd,Nat.reduceSub,Nat.reduceMul,Int.reduceAdd,Int.reduceSub,Int.reduceMul,Int.reduceNeg,Int.reduceLE,Int.reduceLT,Int.reduceEq,Int.reduceToNat])
                  exact h9 (by rw [s1, s2, s3, s4]; rfl)
        · rcases Classical.em (r.k = 2) with e2 | e2
          · have d1 : decide (r.k = 1) = false := by simpa using e
            have d2 : decide (r.k = 2) = true := by simpa using e2
            have hfr : fewR r = (small r.l && small r.o && small r.b && small r.t) := by simp [fewR, e2]
            rw [hfr] at h9 hno
            apply hL
            simp only [L15_1, l15_1, ex,reduceIte,reduceCtorEq,Nat.reduceEqDiff,Nat.reduceLT,Nat.reduceLeDiff,Nat.reduceAdd,Nat.reduceSub,Nat.reduceMul,Int.reduceAdd,Int.reduceSub,Int.reduceMul,Int.reduceNeg,Int.reduceLE,Int.reduceLT,Int.reduceEq,Int.reduceToNat]
            (try simp only [h1, g1, hc, d1, d2, ex,reduceIte,reduceCtorEq,Nat.reduceEqDiff,Nat.reduceLT,Nat.reduceLeDiff,Nat.reduceAdd,Nat.reduceSub,Nat.reduceMul,Int.reduceAdd,Int.reduceSub,Int.reduceMul,Int.reduceNeg,Int.reduceLE,Int.reduceLT,Int.reduceEq,Int.reduceToNat]) <;> repeat ((with_reducible refine Req.intro ?_ ?_); (first | omega | (simp <;> omega)); try simp only [h1, g1, hc, d1, d2, ex,reduceIte,reduceCtorEq,Nat.reduceEqDiff,Nat.reduceLT,Nat.reduceLeDiff,Nat.reduceAdd,Nat.reduceSub,Nat.reduceMul,Int.reduceAdd,Int.reduceSub,Int.reduceMul,Int.reduceNeg,Int.reduceLE,Int.reduceLT,Int.reduceEq,Int.reduceToNat])
            refine CallA.eq rfl (small_spec _ r.l hr.1) rfl ?_
            cases s1 : small r.l with
            | false =>
              (try simp only [ex,reduceIte,reduceCtorEq,Nat.reduceEqDiff,Nat.reduceLT,Nat.reduceLeDiff,Nat.reduceAdd,Nat.reduceSub,Nat.reduceMul,Int.reduceAdd,Int.reduceSub,Int.reduceMul,Int.reduceNeg,Int.reduceLE,Int.reduceLT,Int.reduceEq,Int.reduceToNat]) <;> repeat ((with_reducible refine Req.intro ?_ ?_); (first | omega | (simp <;> omega)); try simp only [ex,reduceIte,reduceCtorEq,Nat.reduceEqDiff,Nat.reduceLT,Nat.reduceLeDiff,Nat.reduceAdd,Nat.reduceSub,Nat.reduceMul,Int.reduceAdd,Int.reduceSub,Int.reduceMul,Int.reduceNeg,Int.reduceLE,Int.reduceLT,Int.reduceEq,Int.reduceToNat])
              rw [hno (by rw [s1]; rfl)]
            | true =>
              (try simp only [g1, hc, ex,reduceIte,reduceCtorEq,Nat.reduceEqDiff,Nat.reduceLT,Nat.reduceLeDiff,Nat.reduceAdd,Nat.reduceSub,Nat.reduceMul,Int.reduceAdd,Int.reduceSub,Int.reduceMul,Int.reduceNeg,Int.reduceLE,Int.reduceLT,Int.reduceEq,Int.reduceToNat]) <;> repeat ((with_reducible refine Req.intro ?_ ?_); (first | omega | (simp <;> omega)); try simp only [g1, hc, ex,reduceIte,reduceCtorEq,Nat.reduceEqDiff,Nat.reduceLT,Nat.reduceLeDiff,Nat.reduceAdd,Nat.reduceSub,Nat.reduceMul,Int.reduceAdd,Int.reduceSub,Int.reduceMul,Int.reduceNeg,Int.reduceLE,Int.reduceLT,Int.reduceEq,Int.reduceToNat])
              refine CallA.eq rfl (small_spec _ r.o hr.2.1) rfl ?_
              cases s2 : small r.o with
              | false =>
                (try simp only [ex,reduceIte,reduceCtorEq,Nat.reduceEqDiff,Nat.reduceLT,Nat.reduceLeDiff,Nat.reduceAdd,Nat.reduceSub,Nat.reduceMul,Int.reduceAdd,Int.reduceSub,Int.reduceMul,Int.reduceNeg,Int.reduceLE,Int.reduceLT,Int.reduceEq,Int.reduceToNat]) <;> repeat ((with_reducible refine Req.intro ?_ ?_); (first | omega | (simp <;> omega)); try simp only [ex,reduceIte,reduceCtorEq,Nat.reduceEqDiff,Nat.reduceLT,Nat.reduceLeDiff,Nat.reduceAdd,Nat.reduceSub,Nat.reduceMul,Int.reduceAdd,Int.reduceSub,Int.reduceMul,Int.reduceNeg,Int.reduceLE,Int.reduceLT,Int.reduceEq,Int.reduceToNat])
                rw [hno (by rw [s1, s2]; rfl)]
              | true =>
                (try simp only [g1, hc, ex,reduceIte,reduceCtorEq,Nat.reduceEqDiff,Nat.reduceLT,Nat.reduceLeDiff,Nat.reduceAdd,Nat.reduceSub,Nat.reduceMul,Int.reduceAdd,Int.reduceSub,Int.reduceMul,Int.reduceNeg,Int.reduceLE,Int.reduceLT,Int.reduceEq,Int.reduceToNat]) <;> repeat ((with_reducible refine Req.intro ?_ ?_); (first | omega | (simp <;> omega)); try simp only [g1, hc, ex,reduceIte,reduceCtorEq,Nat.reduceEqDiff,Nat.reduceLT,Nat.reduceLeDiff,Nat.reduceAdd,Nat.reduceSub,Nat.reduceMul,Int.reduceAdd,Int.reduceSub,Int.reduceMul,Int.reduceNeg,Int.reduceLE,Int.reduceLT,Int.reduceEq,Int.reduceToNat])
                refine CallA.eq rfl (small_spec _ r.b hr.2.2.1) rfl ?_
                cases s3 : small r.b with
                | false =>
                  (try simp only [ex,reduceIte,reduceCtorEq,Nat.reduceEqDiff,Nat.reduceLT,Nat.reduceLeDiff,Nat.reduceAdd,Nat.reduceSub,Nat.reduceMul,Int.reduceAdd,Int.reduceSub,Int.reduceMul,Int.reduceNeg,Int.reduceLE,Int.reduceLT,Int.reduceEq,Int.reduceToNat]) <;> repeat ((with_reducible refine Req.intro ?_ ?_); (first | omega | (simp <;> omega)); try simp only [ex,reduceIte,reduceCtorEq,Nat.reduceEqDiff,Nat.reduceLT,Nat.reduceLeDiff,Nat.reduceAdd,Nat.reduceSub,Nat.reduceMul,Int.reduceAdd,Int.reduceSub,Int.reduceMul,Int.reduceNeg,Int.reduceLE,Int.reduceLT,Int.reduceEq,Int.reduceToNat])
                  rw [hno (by rw [s1, s2, s3]; rfl)]
                | true =>
                  (try simp only [g1, hc, ex,reduceIte,reduceCtorEq,Nat.reduceEqDiff,Nat.reduceLT,Nat.reduceLeDiff,Nat.reduceAdd,Nat.reduceSub,Nat.reduceMul,Int.reduceAdd,Int.reduceSub,Int.reduceMul,Int.reduceNeg,Int.reduceLE,Int.reduceLT,Int.reduceEq,Int.reduceToNat]) <;> repeat ((with_reducible refine Req.intro ?_ ?_); (first | omega | (simp <;> omega)); try simp only [g1, hc, ex,reduceIte,reduceCtorEq,Nat.reduceEqDiff,Nat.reduceLT,Nat.reduceLeDiff,Nat.reduceAdd,Nat.reduceSub,Nat.reduceMul,Int.reduceAdd,Int.reduceSub,Int.reduceMul,Int.reduceNeg,Int.reduceLE,Int.reduceLT,Int.reduceEq,Int.reduceToNat])
                  refine CallA.eq rfl (small_spec _ r.t hr.2.2.2) rfl ?_
                  cases s4 : small r.t with
                  | false =>
                    (try simp only [ex,reduceIte,reduceCtorEq,Nat.reduceEqDiff,Nat.reduceLT,Nat.reduceLeDiff,Nat.reduceAdd,Nat.reduceSub,Nat.reduceMul,Int.reduceAdd,Int.reduceSub,Int.reduceMul,Int.reduceNeg,Int.reduceLE,Int.reduceLT,Int.reduceEq,Int.reduceToNat]) <;> repeat ((with_reducible refine Req.intro ?_ ?_); (first | omega | (simp <;> omega)); try simp only [ex,reduceIte,reduceCtorEq,Nat.reduceEqDiff,Nat.reduceLT,Nat.reduceLeDiff,Nat.reduceAdd,Nat.reduceSub,Nat.reduceMul,Int.reduceAdd,Int.reduceSub,Int.reduceMul,Int.reduceNeg,Int.reduceLE,Int.reduceLT,Int.reduceEq,Int.reduceToNat])
                    rw [hno (by rw [s1, s2, s3, s4]; rfl)]
                  | true =>
                    (try simp only [ex,reduceIte,reduceCtorEq,Nat.reduceEqDiff,Nat.reduceLT,Nat.reduceLeDiff,Nat.reduceAdd,Nat.reduceSub,Nat.reduceMul,Int.reduceAdd,Int.reduceSub,Int.reduceMul,Int.reduceNeg,Int.reduceLE,Int.reduceLT,Int.reduceEq,Int.reduceToNat]) <;> repeat ((with_reducible refine Req.intro ?_ ?_); (first | omega | (simp <;> omega)); try simp only [ex,reduceIte,reduceCtorEq,Nat.reduceEqDiff,Nat.reduceLT,Nat.reduceLeDiff,Nat.reduceAdd,Nat.reduceSub,Nat.reduceMul,Int.reduceAdd,Int.reduceSub,Int.reduceMul,Int.reduceNeg,Int.reduceLE,Int.reduceLT,Int.reduceEq,Int.reduceToNat])
                    exact h9 (by rw [s1, s2, s3, s4]; rfl)
          · have d1 : decide (r.k = 1) = false := by simpa using e
            have d2 : decide (r.k = 2) = false := by simpa using e2
            apply hL
            simp only [L15_1, l15_1, ex,reduceIte,reduceCtorEq,Nat.reduceEqDiff,Nat.reduceLT,Nat.reduceLeDiff,Nat.reduceAdd,Nat.reduceSub,Nat.reduceMul,Int.reduceAdd,Int.reduceSub,Int.reduceMul,Int.reduceNeg,Int.reduceLE,Int.reduceLT,Int.reduceEq,Int.reduceToNat]
            (try simp only [h1, g1, hc, d1, d2, ex,reduceIte,reduceCtorEq,Nat.reduceEqDiff,Nat.reduceLT,Nat.reduceLeDiff,Nat.reduceAdd,Nat.reduceSub,Nat.reduceMul,Int.reduceAdd,Int.reduceSub,Int.reduceMul,Int.reduceNeg,Int.reduceLE,Int.reduceLT,Int.reduceEq,Int.reduceToNat]) <;> repeat ((with_reducible refine Req.intro ?_ ?_); (first | omega | (simp <;> omega)); try simp only [h1, g1, hc, d1, d2, ex,reduceIte,reduceCtorEq,Nat.reduceEqDiff,Nat.reduceLT,Nat.reduceLeDiff,Nat.reduceAdd,Nat.reduceSub,Nat.reduceMul,Int.reduceAdd,Int.reduceSub,Int.reduceMul,Int.reduceNeg,Int.reduceLE,Int.reduceLT,Int.reduceEq,Int.reduceToNat])
            rw [hno (by simp [fewR, e, e2])]
    exact key rs.length 0 (Nat.zero_add _) rfl
  · have h0 : decide ((rs.length : Int) > 30) = true := by simp; omega
    have hf : few rs = false := by unfold few; rw [decide_eq_false c]; rfl
    rw [hf]
    (try simp only [h0, ex,reduceIte,reduceCtorEq,Nat.reduceEqDiff,Nat.reduceLT,Nat.reduceLeDiff,Nat.reduceAdd,Nat.reduceSub,Nat.reduceMul,Int.reduceAdd,Int.reduceSub,Int.reduceMul,Int.reduceNeg,Int.reduceLE,Int.reduceLT,Int.reduceEq,Int.reduceToNat]) <;> repeat ((with_reducible refine Req.intro ?_ ?_); (first | omega | (simp <;> omega)); try simp only [h0, ex,reduceIte,reduceCtorEq,Nat.reduceEqDiff,Nat.reduceLT,Nat.reduceLeDiff,Nat.reduceAdd,Nat.reduceSub,Nat.reduceMul,Int.reduceAdd,Int.reduceSub,Int.reduceMul,Int.reduceNeg,Int.reduceLE,Int.reduceLT,Int.reduceEq,Int.reduceToNat])
end Go.Proofs.Ytnodepfoahmcmaa.E.Hs

/- Chapter 12: Mark of both. Conditions: none. -/
namespace Go.Proofs.Ytnodepfoahmcmaa.E.Hs
set_option linter.unusedVariables false
set_option linter.unusedSimpArgs false
set_option maxHeartbeats 20000000
set_option maxRecDepth 100000

/-- Does a line end with a line feed? -/
def ends (s : Sx) : Bool := decide (s.getLast? = some 10)
theorem ends_nil : ends [] = false := rfl
theorem ends_snoc (s : Sx) (c : UInt8) : ends (s ++ [c]) = decide (c = 10) := by simp [ends]
def enL (s : Sx) : Sx := if ends s then s else s ++ [10]
def ended (l : List Sx) : Sx := l.flatMap enL
def layT (e : Bool) (l : List Sx) : Sx := if e then ended l else l.flatten
theorem hasSuf0_spec (s : Sx) (hs : s.length ≤ 1000000) : Run tab 55 0 [.str s, .str [10]] [] 0 (fun r _ _ => r = .bool (ends s)) := by
  rcases List.eq_nil_or_concat s with e | ⟨t, c, e⟩
  · subst e
    refine enter (F := f55) rfl rfl ?_
    simp only [f55, ex,reduceIte,reduceCtorEq,Nat.reduceEqDiff,Nat.reduceLT,Nat.reduceLeDiff,Nat.reduceAdd,Nat.reduceSub,Nat.reduceMul,Int.reduceAdd,Int.reduceSub,Int.reduceMul,Int.reduceNeg,Int.reduceLE,Int.reduceLT,Int.reduceEq,Int.reduceToNat]
    have h0 : decide (((0 : Nat) : Int) ≥ ((1 : Nat) : Int)) = false := by decide
    (try simp only [h0, ends_nil, ex,reduceIte,reduceCtorEq,Nat.reduceEqDiff,Nat.reduceLT,Nat.reduceLeDiff,Nat.reduceAdd,Nat.reduceSub,Nat.reduceMul,Int.reduceAdd,Int.reduceSub,Int.reduceMul,Int.reduceNeg,Int.reduceLE,Int.reduceLT,Int.reduceEq,Int.reduceToNat]) <;> repeat ((with_reducible refine Req.intro ?_ ?_); (first | omega | (simp <;> omega)); try simp only [h0, ends_nil, ex,reduceIte,reduceCtorEq,Nat.reduceEqDiff,Nat.reduceLT,Nat.reduceLeDiff,Nat.reduceAdd,Nat.reduceSub,Nat.reduceMul,Int.reduceAdd,Int.reduceSub,Int.reduceMul,Int.reduceNeg,Int.reduceLE,Int.reduceLT,Int.reduceEq,Int.reduceToNat])
  · rw [List.concat_eq_append] at e
    subst e
    rw [List.length_append, List.length_singleton] at hs
    have hl : (t ++ [c]).length = t.length + 1 := by simp
    have h0 : decide ((((t ++ [c]).length : Nat) : Int) ≥ ((1 : Nat) : Int)) = true := by simp; omega
    have t1 : (((t ++ [c]).length : Int) - ((1 : Nat) : Int)).toNat = t.length := by omega
    have h3 : (((t ++ [c]).take (t ++ [c]).length).drop t.length) = [c] := by rw [List.take_length, List.drop_left]
    have h4 : decide ([c] = ([10] : Sx)) = decide (c = 10) := by simp
    refine enter (F := f55) rfl rfl ?_
    simp only [f55, ex,reduceIte,reduceCtorEq,Nat.reduceEqDiff,Nat.reduceLT,Nat.reduceLeDiff,Nat.reduceAdd,Nat.reduceSub,Nat.reduceMul,Int.reduceAdd,Int.reduceSub,Int.reduceMul,Int.reduceNeg,Int.reduceLE,Int.reduceLT,Int.reduceEq,Int.reduceToNat]
    (try simp only [h0, t1, h3, h4, ends_snoc, ex,reduceIte,reduceCtorEq,Nat.reduceEqDiff,Nat.reduceLT,Nat.reduceLeDiff,Nat.reduceAdd,Nat.reduceSub,Nat.reduceMul,Int.reduceAdd,Int.reduceSub,Int.reduceMul,Int.reduceNeg,Int.reduceLE,Int.reduceLT,Int.reduceEq,Int.reduceToNat]) <;> repeat ((with_reducible refine Req.intro ?_ ?_); (first | omega | (simp <;> omega)); try simp only [h0, t1, h3, h4, ends_snoc, ex,reduceIte,reduceCtorEq,Nat.reduceEqDiff,Nat.reduceLT,Nat.reduceLeDiff,Nat.reduceAdd,Nat.reduceSub,Nat.reduceMul,Int.reduceAdd,Int.reduceSub,Int.reduceMul,Int.reduceNeg,Int.reduceLE,Int.reduceLT,Int.reduceEq,Int.reduceToNat])
    rw [List.drop_left, h4]
theorem hasSuf_spec (s : Sx) (hs : s.length ≤ 1000000) : Run tab 37 0 [.str s, .str [10]] [] 0 (fun r _ _ => r = .bool (ends s)) := by
  refine enter (F := f37) rfl rfl ?_
  simp only [f37, ex,reduceIte,reduceCtorEq,Nat.reduceEqDiff,Nat.reduceLT,Nat.reduceLeDiff,Nat.reduceAdd,Nat.reduceSub,Nat.reduceMul,Int.reduceAdd,Int.reduceSub,Int.reduceMul,Int.reduceNeg,Int.reduceLE,Int.reduceLT,Int.reduceEq,Int.reduceToNat]
  refine CallA.eq rfl (hasSuf0_spec s hs) rfl ?_
  (try simp only [ex,reduceIte,reduceCtorEq,Nat.reduceEqDiff,Nat.reduceLT,Nat.reduceLeDiff,Nat.reduceAdd,Nat.reduceSub,Nat.reduceMul,Int.reduceAdd,Int.reduceSub,Int.reduceMul,Int.reduceNeg,Int.reduceLE,Int.reduceLT,Int.reduceEq,Int.reduceToNat]) <;> repeat ((with_reducible refine Req.intro ?_ ?_); (first | omega | (simp <;> omega)); try simp only [ex,reduceIte,reduceCtorEq,Nat.reduceEqDiff,Nat.reduceLT,Nat.reduceLeDiff,Nat.reduceAdd,Nat.reduceSub,Nat.reduceMul,Int.reduceAdd,Int.reduceSub,Int.reduceMul,Int.reduceNeg,Int.reduceLE,Int.reduceLT,Int.reduceEq,Int.reduceToNat])
/-- A builder is written. -/
theorem write_spec (b z n : Nat) (s x : Sx) (h : Heap) (hb : get h b = some (.bld 55 5 s)) (hl : s.length + x.length ≤ 17592186044416) :
    Run tab 36 0 [.ptr b z 0 0, .str x] h n (fun r h' n' => r = .tup [.int .i64 x.length, .nili] ∧ (get h' b = some (.bld 55 5 (s ++ x)) ∧ ∀ k, k ≠ b → get h' k = get h k) ∧ n' = n) := by
  have e : tab.ext 36 [.ptr b z 0 0, .str x] h n = some (.tup [.int .i64 x.length, .nili], set h b (.bld 55 5 (s ++ x)), n) := by
    have e0 : tab.ext = extF := rfl
    rw [e0]
    simp [extF, ext36, hb, hl]
  refine (run_ext e).weaken fun r h' n' hh => ⟨hh.1, ⟨by rw [hh.2.1, get_set_same], fun k hk => by rw [hh.2.1, get_set_other hk]⟩, hh.2.2⟩
theorem string_spec (b z n : Nat) (s : Sx) (h : Heap) (hb : get h b = some (.bld 55 5 s)) :
    Run tab 38 0 [.ptr b z 0 0] h n (fun r h' n' => r = .str s ∧ n' = n) := by
  have e : tab.ext 38 [.ptr b z 0 0] h n = some (.str s, set h b (.rows 2 [.agg [.junk, .junk]]), n) := by
    have e0 : tab.ext = extF := rfl
    rw [e0]
    simp [extF, ext38, hb]
  exact (run_ext e).weaken fun r h' n' hh => ⟨hh.1, hh.2.2⟩
theorem flat_len (f : Sx → Sx) (l : List Sx) (m : Nat) (h : ∀ s ∈ l, (f s).length ≤ m) (i : Nat) : ((l.take i).flatMap f).length ≤ m * i := by
  induction i with
  | zero => simp
  | succ i ih =>
    rw [List.take_add_one]
    cases hg : l[i]? with
    | none =>
      rw [Option.toList_none, List.append_nil, Nat.mul_succ]; omega
    | some s =>
      have := h s (List.mem_of_getElem? hg)
      simp only [Option.toList_some, List.flatMap_append, List.length_append, List.flatMap_cons, List.flatMap_nil, List.append_nil]
      rw [Nat.mul_succ]; omega
theorem enL_len (s : Sx) : (enL s).length ≤ s.length + 1 := by unfold enL; split <;> simp
theorem flatId : ∀ l : List Sx, l.flatMap (fun s => s) = l.flatten
  | [] => rfl
  | a :: l => by rw [List.flatMap_cons, flatId l, List.flatten_cons]
def layL (e : Bool) (s : Sx) : Sx := if e then enL s else s
theorem layT_eq (e : Bool) (l : List Sx) : layT e l = l.flatMap (layL e) := by
  cases e
  · have e : layL false = fun s => s := funext fun s => by simp [layL]
    rw [e, flatId l]; rfl
  · have e : layL true = enL := funext fun s => by simp [layL]
    rw [e]; rfl
/-- Lines that are not too long. -/
def Ln (l : List Sx) : Prop := l.length ≤ 10000 ∧ ∀ s ∈ l, s.length ≤ 1000
theorem lay_len (e : Bool) (l : List Sx) (h : Ln l) : (layT e l).length ≤ 10010000 := by
  rw [layT_eq]
  have := flat_len (layL e) l 1001 (fun s hs => by
    have h1 := h.2 s hs
    have h2 := enL_len s
    unfold layL
    split <;> omega) l.length
  rw [List.take_length] at this
  have h3 := h.1
  omega
theorem lay_spec (o e : Bool) (l : List Sx) (hl : Ln l) (b n : Nat) (s : Sx) (h : Heap) (hb : get h b = some (.bld 55 5 s)) (hs : s.length ≤ 10000000000000) :
    Run tab 35 0 [.sl o 1 (l.map .str), .bool e, .ptr b 2 0 0] h n (fun r h' n' => r = .tup [] ∧ get h' b = some (.bld 55 5 (s ++ layT e l)) ∧ n' = n) := by
  have hll := hl.1
  rw [layT_eq]
  refine enter (F := f35) rfl rfl ?_
  simp only [f35, ex,reduceIte,reduceCtorEq,Nat.reduceEqDiff,Nat.reduceLT,Nat.reduceLeDiff,Nat.reduceAdd,Nat.reduceSub,Nat.reduceMul,Int.reduceAdd,Int.reduceSub,Int.reduceMul,Int.reduceNeg,Int.reduceLE,Int.reduceLT,Int.reduceEq,Int.reduceToNat]
  (try simp only [ex,reduceIte,reduceCtorEq,Nat.reduceEqDiff,Nat.reduceLT,Nat.reduceLeDiff,Nat.reduceAdd,Nat.reduceSub,Nat.reduceMul,Int.reduceAdd,Int.reduceSub,Int.reduceMul,Int.reduceNeg,Int.reduceLE,Int.reduceLT,Int.reduceEq,Int.reduceToNat]) <;> repeat ((with_reducible refine Req.intro ?_ ?_); (first | omega | (simp <;> omega)); try simp only [ex,reduceIte,reduceCtorEq,Nat.reduceEqDiff,Nat.reduceLT,Nat.reduceLeDiff,Nat.reduceAdd,Nat.reduceSub,Nat.reduceMul,Int.reduceAdd,Int.reduceSub,Int.reduceMul,Int.reduceNeg,Int.reduceLE,Int.reduceLT,Int.reduceEq,Int.reduceToNat])
  refine loopI fun L hL => ?_
  (try simp only [ex,reduceIte,reduceCtorEq,Nat.reduceEqDiff,Nat.reduceLT,Nat.reduceLeDiff,Nat.reduceAdd,Nat.reduceSub,Nat.reduceMul,Int.reduceAdd,Int.reduceSub,Int.reduceMul,Int.reduceNeg,Int.reduceLE,Int.reduceLT,Int.reduceEq,Int.reduceToNat]) <;> repeat ((with_reducible refine Req.intro ?_ ?_); (first | omega | (simp <;> omega)); try simp only [ex,reduceIte,reduceCtorEq,Nat.reduceEqDiff,Nat.reduceLT,Nat.reduceLeDiff,Nat.reduceAdd,Nat.reduceSub,Nat.reduceMul,Int.reduceAdd,Int.reduceSub,Int.reduceMul,Int.reduceNeg,Int.reduceLE,Int.reduceLT,Int.reduceEq,Int.reduceToNat])
  have key : ∀ (m i : Nat) (H : Heap), i + m = l.length → get H b = some (.bld 55 5 (s ++ (l.take i).flatMap (layL e))) → L (L35_1 (.bool e) (.ptr b 2 0 0) (.sl o 1 (l.map .str)) (.int .i64 l.length) (.int .i64 i) H n) := by
    intro m
    induction m with
    | zero =>
      intro i H hi g
      have k1 : decide ((i : Int) < (l.length : Int)) = false := by simp; omega
      rw [List.take_of_length_le (by omega)] at g
      apply hL
      simp only [L35_1, l35_1, ex,reduceIte,reduceCtorEq,Nat.reduceEqDiff,Nat.reduceLT,Nat.reduceLeDiff,Nat.reduceAdd,Nat.reduceSub,Nat.reduceMul,Int.reduceAdd,Int.reduceSub,Int.reduceMul,Int.reduceNeg,Int.reduceLE,Int.reduceLT,Int.reduceEq,Int.reduceToNat]
      (try simp only [k1, ex,reduceIte,reduceCtorEq,Nat.reduceEqDiff,Nat.reduceLT,Nat.reduceLeDiff,Nat.reduceAdd,Nat.reduceSub,Nat.reduceMul,Int.reduceAdd,Int.reduceSub,Int.reduceMul,Int.reduceNeg,Int.reduceLE,Int.reduceLT,Int.reduceEq,Int.reduceToNat]) <;> repeat ((with_reducible refine Req.intro ?_ ?_); (first | omega | (simp <;> omega)); try simp only [k1, ex,reduceIte,reduceCtorEq,Nat.reduceEqDiff,Nat.reduceLT,Nat.reduceLeDiff,Nat.reduceAdd,Nat.reduceSub,Nat.reduceMul,Int.reduceAdd,Int.reduceSub,Int.reduceMul,Int.reduceNeg,Int.reduceLE,Int.reduceLT,Int.reduceEq,Int.reduceToNat])
      exact ⟨rfl, g⟩
    | succ m ih =>
      intro i H hi g
      have k1 : decide ((i : Int) < (l.length : Int)) = true := by simp; omega
      have g1 : l[i]? = some (l[i]'(by omega)) := List.getElem?_eq_getElem _
      have ht : l.take (i + 1) = l.take i ++ [l[i]'(by omega)] := by rw [List.take_add_one, g1]; rfl
      have hm : l[i]'(by omega) ∈ l := List.getElem_mem _
      have hb1 := flat_len (layL e) l 1001 (fun s hs => by
        have h1 := hl.2 s hs
        have h2 := enL_len s
        unfold layL
        split <;> omega) i
      generalize l[i]'(by omega) = x at *
      have hx := hl.2 x hm
      have h9 := fun H => ih (i + 1) H (by omega)
      rw [ht, List.flatMap_append, List.flatMap_cons, List.flatMap_nil, List.append_nil, ← List.append_assoc] at h9
      have hq : (s ++ (l.take i).flatMap (layL e)).length ≤ 10000000000000 + 1001 * i := by rw [List.length_append]; omega
      generalize s ++ (l.take i).flatMap (layL e) = acc at *
      apply hL
      simp only [L35_1, l35_1, ex,reduceIte,reduceCtorEq,Nat.reduceEqDiff,Nat.reduceLT,Nat.reduceLeDiff,Nat.reduceAdd,Nat.reduceSub,Nat.reduceMul,Int.reduceAdd,Int.reduceSub,Int.reduceMul,Int.reduceNeg,Int.reduceLE,Int.reduceLT,Int.reduceEq,Int.reduceToNat]
      (try simp only [k1, g1, ex,reduceIte,reduceCtorEq,Nat.reduceEqDiff,Nat.reduceLT,Nat.reduceLeDiff,Nat.reduceAdd,Nat.reduceSub,Nat.reduceMul,Int.reduceAdd,Int.reduceSub,Int.reduceMul,Int.reduceNeg,Int.reduceLE,Int.reduceLT,Int.reduceEq,Int.reduceToNat]) <;> repeat ((with_reducible refine Req.intro ?_ ?_); (first | omega | (simp <;> omega)); try simp only [k1, g1, ex,reduceIte,reduceCtorEq,Nat.reduceEqDiff,Nat.reduceLT,Nat.reduceLeDiff,Nat.reduceAdd,Nat.reduceSub,Nat.reduceMul,Int.reduceAdd,Int.reduceSub,Int.reduceMul,Int.reduceNeg,Int.reduceLE,Int.reduceLT,Int.reduceEq,Int.reduceToNat])
      refine CallH.any (write_spec b 2 n acc x H g (by omega)) ?_
      intro r H1 n1 hh
      have y1 := hh.1
      have y2 := hh.2.1.1
      have y3 := hh.2.2
      clear hh
      have hnn : n + (n - n) = n := by omega
      cases e with
      | false =>
        (try simp only [y1, y3, hnn, ex,reduceIte,reduceCtorEq,Nat.reduceEqDiff,Nat.reduceLT,Nat.reduceLeDiff,Nat.reduceAdd,Nat.reduceSub,Nat.reduceMul,Int.reduceAdd,Int.reduceSub,Int.reduceMul,Int.reduceNeg,Int.reduceLE,Int.reduceLT,Int.reduceEq,Int.reduceToNat]) <;> repeat ((with_reducible refine Req.intro ?_ ?_); (first | omega | (simp <;> omega)); try simp only [y1, y3, hnn, ex,reduceIte,reduceCtorEq,Nat.reduceEqDiff,Nat.reduceLT,Nat.reduceLeDiff,Nat.reduceAdd,Nat.reduceSub,Nat.reduceMul,Int.reduceAdd,Int.reduceSub,Int.reduceMul,Int.reduceNeg,Int.reduceLE,Int.reduceLT,Int.reduceEq,Int.reduceToNat])
        exact h9 H1 y2
      | true =>
        (try simp only [y1, y3, hnn, ex,reduceIte,reduceCtorEq,Nat.reduceEqDiff,Nat.reduceLT,Nat.reduceLeDiff,Nat.reduceAdd,Nat.reduceSub,Nat.reduceMul,Int.reduceAdd,Int.reduceSub,Int.reduceMul,Int.reduceNeg,Int.reduceLE,Int.reduceLT,Int.reduceEq,Int.reduceToNat]) <;> repeat ((with_reducible refine Req.intro ?_ ?_); (first | omega | (simp <;> omega)); try simp only [y1, y3, hnn, ex,reduceIte,reduceCtorEq,Nat.reduceEqDiff,Nat.reduceLT,Nat.reduceLeDiff,Nat.reduceAdd,Nat.reduceSub,Nat.reduceMul,Int.reduceAdd,Int.reduceSub,Int.reduceMul,Int.reduceNeg,Int.reduceLE,Int.reduceLT,Int.reduceEq,Int.reduceToNat])
        refine CallA.eq rfl (hasSuf_spec x (by omega)) rfl ?_
        cases he : ends x with
        | true =>
          have hL9 : layL true x = x := by simp [layL, enL, he]
          (try simp only [ex,reduceIte,reduceCtorEq,Nat.reduceEqDiff,Nat.reduceLT,Nat.reduceLeDiff,Nat.reduceAdd,Nat.reduceSub,Nat.reduceMul,Int.reduceAdd,Int.reduceSub,Int.reduceMul,Int.reduceNeg,Int.reduceLE,Int.reduceLT,Int.reduceEq,Int.reduceToNat]) <;> repeat ((with_reducible refine Req.intro ?_ ?_); (first | omega | (simp <;> omega)); try simp only [ex,reduceIte,reduceCtorEq,Nat.reduceEqDiff,Nat.reduceLT,Nat.reduceLeDiff,Nat.reduceAdd,Nat.reduceSub,Nat.reduceMul,Int.reduceAdd,Int.reduceSub,Int.reduceMul,Int.reduceNeg,Int.reduceLE,Int.reduceLT,Int.reduceEq,Int.reduceToNat])
          exact h9 H1 (by rw [hL9]; exact y2)
        | false =>
          have hL9 : layL true x = x ++ [10] := by simp [layL, enL, he]
          (try simp only [ex,reduceIte,reduceCtorEq,Nat.reduceEqDiff,Nat.reduceLT,Nat.reduceLeDiff,Nat.reduceAdd,Nat.reduceSub,Nat.reduceMul,Int.reduceAdd,Int.reduceSub,Int.reduceMul,Int.reduceNeg,Int.reduceLE,Int.reduceLT,Int.reduceEq,Int.reduceToNat]) <;> repeat ((with_reducible refine Req.intro ?_ ?_); (first | omega | (simp <;> omega)); try simp only [ex,reduceIte,reduceCtorEq,Nat.reduceEqDiff,Nat.reduceLT,Nat.reduceLeDiff,Nat.reduceAdd,Nat.reduceSub,Nat.reduceMul,Int.reduceAdd,Int.reduceSub,Int.reduceMul,Int.reduceNeg,Int.reduceLE,Int.reduceLT,Int.reduceEq,Int.reduceToNat])
          refine CallH.any (write_spec b 2 n (acc ++ x) [10] H1 y2 (by rw [List.length_append]; simp only [List.length_singleton]; omega)) ?_
          intro r2 H2 n2 hh2
          have z2 := hh2.2.1.1
          have z3 := hh2.2.2
          clear hh2
          (try simp only [z3, hnn, ex,reduceIte,reduceCtorEq,Nat.reduceEqDiff,Nat.reduceLT,Nat.reduceLeDiff,Nat.reduceAdd,Nat.reduceSub,Nat.reduceMul,Int.reduceAdd,Int.reduceSub,Int.reduceMul,Int.reduceNeg,Int.reduceLE,Int.reduceLT,Int.reduceEq,Int.reduceToNat]) <;> repeat ((with_reducible refine Req.intro ?_ ?_); (first | omega | (simp <;> omega)); try simp only [z3, hnn, ex,reduceIte,reduceCtorEq,Nat.reduceEqDiff,Nat.reduceLT,Nat.reduceLeDiff,Nat.reduceAdd,Nat.reduceSub,Nat.reduceMul,Int.reduceAdd,Int.reduceSub,Int.reduceMul,Int.reduceNeg,Int.reduceLE,Int.reduceLT,Int.reduceEq,Int.reduceToNat])
          exact h9 H2 (by rw [hL9, ← List.append_assoc]; exact z2)
  exact key l.length 0 h (Nat.zero_add _) (by simpa using hb)
theorem ended_spec (o : Bool) (l : List Sx) (hl : Ln l) : Run tab 39 0 [.sl o 1 (l.map .str)] [] 0 (fun r _ _ => r = .str (ended l)) := by
  have hll := hl.1
  refine enter (F := f39) rfl rfl ?_
  simp only [f39, ex,reduceIte,reduceCtorEq,Nat.reduceEqDiff,Nat.reduceLT,Nat.reduceLeDiff,Nat.reduceAdd,Nat.reduceSub,Nat.reduceMul,Int.reduceAdd,Int.reduceSub,Int.reduceMul,Int.reduceNeg,Int.reduceLE,Int.reduceLT,Int.reduceEq,Int.reduceToNat]
  (try simp only [ex,reduceIte,reduceCtorEq,Nat.reduceEqDiff,Nat.reduceLT,Nat.reduceLeDiff,Nat.reduceAdd,Nat.reduceSub,Nat.reduceMul,Int.reduceAdd,Int.reduceSub,Int.reduceMul,Int.reduceNeg,Int.reduceLE,Int.reduceLT,Int.reduceEq,Int.reduceToNat]) <;> repeat ((with_reducible refine Req.intro ?_ ?_); (first | omega | (simp <;> omega)); try simp only [ex,reduceIte,reduceCtorEq,Nat.reduceEqDiff,Nat.reduceLT,Nat.reduceLeDiff,Nat.reduceAdd,Nat.reduceSub,Nat.reduceMul,Int.reduceAdd,Int.reduceSub,Int.reduceMul,Int.reduceNeg,Int.reduceLE,Int.reduceLT,Int.reduceEq,Int.reduceToNat])
  refine loopI fun L hL => ?_
  (try simp only [ex,reduceIte,reduceCtorEq,Nat.reduceEqDiff,Nat.reduceLT,Nat.reduceLeDiff,Nat.reduceAdd,Nat.reduceSub,Nat.reduceMul,Int.reduceAdd,Int.reduceSub,Int.reduceMul,Int.reduceNeg,Int.reduceLE,Int.reduceLT,Int.reduceEq,Int.reduceToNat]) <;> repeat ((with_reducible refine Req.intro ?_ ?_); (first | omega | (simp <;> omega)); try simp only [ex,reduceIte,reduceCtorEq,Nat.reduceEqDiff,Nat.reduceLT,Nat.reduceLeDiff,Nat.reduceAdd,Nat.reduceSub,Nat.reduceMul,Int.reduceAdd,Int.reduceSub,Int.reduceMul,Int.reduceNeg,Int.reduceLE,Int.reduceLT,Int.reduceEq,Int.reduceToNat])
  have key : ∀ (m i : Nat), i + m = l.length → L (L39_1 (.sl o 1 (l.map .str)) (.str (ended (l.take i))) (.int .i64 i) [] 0) := by
    intro m
    induction m with
    | zero =>
      intro i hi
      have k1 : decide ((i : Int) < (l.length : Int)) = false := by simp; omega
      rw [List.take_of_length_le (by omega)]
      apply hL
      simp only [L39_1, l39_1, ex,reduceIte,reduceCtorEq,Nat.reduceEqDiff,Nat.reduceLT,Nat.reduceLeDiff,Nat.reduceAdd,Nat.reduceSub,Nat.reduceMul,Int.reduceAdd,Int.reduceSub,Int.reduceMul,Int.reduceNeg,Int.reduceLE,Int.reduceLT,Int.reduceEq,Int.reduceToNat]
      (try simp only [k1, ex,reduceIte,reduceCtorEq,Nat.reduceEqDiff,Nat.reduceLT,Nat.reduceLeDiff,Nat.reduceAdd,Nat.reduceSub,Nat.reduceMul,Int.reduceAdd,Int.reduceSub,Int.reduceMul,Int.reduceNeg,Int.reduceLE,Int.reduceLT,Int.reduceEq,Int.reduceToNat]) <;> repeat ((with_reducible refine Req.intro ?_ ?_); (first | omega | (simp <;> omega)); try simp only [k1, ex,reduceIte,reduceCtorEq,Nat.reduceEqDiff,Nat.reduceLT,Nat.reduceLeDiff,Nat.reduceAdd,Nat.reduceSub,Nat.reduceMul,Int.reduceAdd,Int.reduceSub,Int.reduceMul,Int.reduceNeg,Int.reduceLE,Int.reduceLT,Int.reduceEq,Int.reduceToNat])
    | succ m ih =>
      intro i hi
      have k1 : decide ((i : Int) < (l.length : Int)) = true := by simp; omega
      have g1 : l[i]? = some (l[i]'(by omega)) := List.getElem?_eq_getElem _
      have ht : l.take (i + 1) = l.take i ++ [l[i]'(by omega)] := by rw [List.take_add_one, g1]; rfl
      have hm : l[i]'(by omega) ∈ l := List.getElem_mem _
      have hb1 := flat_len enL l 1001 (fun s hs => by
        have h1 := hl.2 s hs
        have h2 := enL_len s
        omega) i
      generalize l[i]'(by omega) = x at *
      have hx := hl.2 x hm
      have h9 := ih (i + 1) (by omega)
      have he9 : ended (l.take (i + 1)) = ended (l.take i) ++ enL x := by rw [ht]; simp [ended]
      rw [he9] at h9
      have hb2 : (ended (l.take i)).length ≤ 1001 * i := hb1
      generalize ended (l.take i) = acc at *
      rcases List.eq_nil_or_concat x with e | ⟨t, c, e⟩
      · subst e
        have hL9 : enL [] = [10] := rfl
        rw [hL9] at h9
        have d1 : decide (([] : Sx) = []) = true := rfl
        apply hL
        simp only [L39_1, l39_1, ex,reduceIte,reduceCtorEq,Nat.reduceEqDiff,Nat.reduceLT,Nat.reduceLeDiff,Nat.reduceAdd,Nat.reduceSub,Nat.reduceMul,Int.reduceAdd,Int.reduceSub,Int.reduceMul,Int.reduceNeg,Int.reduceLE,Int.reduceLT,Int.reduceEq,Int.reduceToNat]
        (try simp only [k1, g1, d1, List.append_nil, ex,reduceIte,reduceCtorEq,Nat.reduceEqDiff,Nat.reduceLT,Nat.reduceLeDiff,Nat.reduceAdd,Nat.reduceSub,Nat.reduceMul,Int.reduceAdd,Int.reduceSub,Int.reduceMul,Int.reduceNeg,Int.reduceLE,Int.reduceLT,Int.reduceEq,Int.reduceToNat]) <;> repeat ((with_reducible refine Req.intro ?_ ?_); (first | omega | (simp <;> omega)); try simp only [k1, g1, d1, List.append_nil, ex,reduceIte,reduceCtorEq,Nat.reduceEqDiff,Nat.reduceLT,Nat.reduceLeDiff,Nat.reduceAdd,Nat.reduceSub,Nat.reduceMul,Int.reduceAdd,Int.reduceSub,Int.reduceMul,Int.reduceNeg,Int.reduceLE,Int.reduceLT,Int.reduceEq,Int.reduceToNat])
        exact h9
      · rw [List.concat_eq_append] at e
        subst e
        rw [List.length_append, List.length_singleton] at hx
        have hl2 : (t ++ [c]).length = t.length + 1 := by simp
        have d1 : decide (t ++ [c] = []) = false := by simp
        have t1 : (((t ++ [c]).length : Int) - 1).toNat = t.length := by omega
        have g2 : (t ++ [c])[t.length]? = some c := by simp
        have ee := ends_snoc t c
        rcases Classical.em (c = 10) with e | e
        · have hL9 : enL (t ++ [c]) = t ++ [c] := by unfold enL; rw [ee, if_pos (by simp [e])]
          rw [hL9] at h9
          have d2 : decide ((c.toNat : Int) = 10) = true := by subst e; rfl
          apply hL
          simp only [L39_1, l39_1, ex,reduceIte,reduceCtorEq,Nat.reduceEqDiff,Nat.reduceLT,Nat.reduceLeDiff,Nat.reduceAdd,Nat.reduceSub,Nat.reduceMul,Int.reduceAdd,Int.reduceSub,Int.reduceMul,Int.reduceNeg,Int.reduceLE,Int.reduceLT,Int.reduceEq,Int.reduceToNat]
          (try simp only [k1, g1, d1, t1, g2, d2, ex,reduceIte,reduceCtorEq,Nat.reduceEqDiff,Nat.reduceLT,Nat.reduceLeDiff,Nat.reduceAdd,Nat.reduceSub,Nat.reduceMul,Int.reduceAdd,Int.reduceSub,Int.reduceMul,Int.reduceNeg,Int.reduceLE,Int.reduceLT,Int.reduceEq,Int.reduceToNat]) <;> repeat ((with_reducible refine Req.intro ?_ ?_); (first | omega | (simp <;> omega)); try simp only [k1, g1, d1, t1, g2, d2, ex,reduceIte,reduceCtorEq,Nat.reduceEqDiff,Nat.reduceLT,Nat.reduceLeDiff,Nat.reduceAdd,Nat.reduceSub,Nat.reduceMul,Int.reduceAdd,Int.reduceSub,Int.reduceMul,Int.reduceNeg,Int.reduceLE,Int.reduceLT,Int.reduceEq,Int.reduceToNat])
          exact h9
        · have hL9 : enL (t ++ [c]) = t ++ [c] ++ [10] := by unfold enL; rw [ee, if_neg (by simp [e])]
          rw [hL9, ← List.append_assoc] at h9
          have d2 : decide ((c.toNat : Int) = 10) = false := by
            have : c.toNat ≠ 10 := fun q => e (UInt8.toNat_inj.1 q)
            simp; omega
          apply hL
          simp only [L39_1, l39_1, ex,reduceIte,reduceCtorEq,Nat.reduceEqDiff,Nat.reduceLT,Nat.reduceLeDiff,Nat.reduceAdd,Nat.reduceSub,Nat.reduceMul,Int.reduceAdd,Int.reduceSub,Int.reduceMul,Int.reduceNeg,Int.reduceLE,Int.reduceLT,Int.reduceEq,Int.reduceToNat]
          (try simp only [k1, g1, d1, t1, g2, d2, ex,reduceIte,reduceCtorEq,Nat.reduceEqDiff,Nat.reduceLT,Nat.reduceLeDiff,Nat.reduceAdd,Nat.reduceSub,Nat.reduceMul,Int.reduceAdd,Int.reduceSub,Int.reduceMul,Int.reduceNeg,Int.reduceLE,Int.reduceLT,Int.reduceEq,Int.reduceToNat]) <;> repeat ((with_reducible refine Req.intro ?_ ?_); (first | omega | (simp <;> omega)); try simp only [k1, g1, d1, t1, g2, d2, ex,reduceIte,reduceCtorEq,Nat.reduceEqDiff,Nat.reduceLT,Nat.reduceLeDiff,Nat.reduceAdd,Nat.reduceSub,Nat.reduceMul,Int.reduceAdd,Int.reduceSub,Int.reduceMul,Int.reduceNeg,Int.reduceLE,Int.reduceLT,Int.reduceEq,Int.reduceToNat])
          exact h9
  exact key l.length 0 (Nat.zero_add _)
theorem bytes_str : ∀ s : Sx, bytesOf (s.map byteV) = some s
  | [] => rfl
  | c :: s => by
    show (bytesOf (s.map byteV)).map _ = _
    rw [bytes_str s]
    simp
theorem join_spec (o : Bool) (l : List Sx) (hl : Ln l) : Run tab 40 0 [.sl o 1 (l.map .str)] [] 0 (fun r _ _ => r = .str l.flatten) := by
  have hll := hl.1
  refine enter (F := f40) rfl rfl ?_
  simp only [f40, ex,reduceIte,reduceCtorEq,Nat.reduceEqDiff,Nat.reduceLT,Nat.reduceLeDiff,Nat.reduceAdd,Nat.reduceSub,Nat.reduceMul,Int.reduceAdd,Int.reduceSub,Int.reduceMul,Int.reduceNeg,Int.reduceLE,Int.reduceLT,Int.reduceEq,Int.reduceToNat]
  (try simp only [ex,reduceIte,reduceCtorEq,Nat.reduceEqDiff,Nat.reduceLT,Nat.reduceLeDiff,Nat.reduceAdd,Nat.reduceSub,Nat.reduceMul,Int.reduceAdd,Int.reduceSub,Int.reduceMul,Int.reduceNeg,Int.reduceLE,Int.reduceLT,Int.reduceEq,Int.reduceToNat]) <;> repeat ((with_reducible refine Req.intro ?_ ?_); (first | omega | (simp <;> omega)); try simp only [ex,reduceIte,reduceCtorEq,Nat.reduceEqDiff,Nat.reduceLT,Nat.reduceLeDiff,Nat.reduceAdd,Nat.reduceSub,Nat.reduceMul,Int.reduceAdd,Int.reduceSub,Int.reduceMul,Int.reduceNeg,Int.reduceLE,Int.reduceLT,Int.reduceEq,Int.reduceToNat])
  refine loopI fun L hL => ?_
  (try simp only [ex,reduceIte,reduceCtorEq,Nat.reduceEqDiff,Nat.reduceLT,Nat.reduceLeDiff,Nat.reduceAdd,Nat.reduceSub,Nat.reduceMul,Int.reduceAdd,Int.reduceSub,Int.reduceMul,Int.reduceNeg,Int.reduceLE,Int.reduceLT,Int.reduceEq,Int.reduceToNat]) <;> repeat ((with_reducible refine Req.intro ?_ ?_); (first | omega | (simp <;> omega)); try simp only [ex,reduceIte,reduceCtorEq,Nat.reduceEqDiff,Nat.reduceLT,Nat.reduceLeDiff,Nat.reduceAdd,Nat.reduceSub,Nat.reduceMul,Int.reduceAdd,Int.reduceSub,Int.reduceMul,Int.reduceNeg,Int.reduceLE,Int.reduceLT,Int.reduceEq,Int.reduceToNat])
  have key : ∀ (m i : Nat), i + m = l.length → L (L40_1 (.sl o 1 (l.map .str)) (.sl true 1 (((l.take i).flatten).map byteV)) (.int .i64 l.length) (.int .i64 i) [] 0) := by
    intro m
    induction m with
    | zero =>
      intro i hi
      have k1 : decide ((i : Int) < (l.length : Int)) = false := by simp; omega
      rw [List.take_of_length_le (by omega)]
      apply hL
      simp only [L40_1, l40_1, ex,reduceIte,reduceCtorEq,Nat.reduceEqDiff,Nat.reduceLT,Nat.reduceLeDiff,Nat.reduceAdd,Nat.reduceSub,Nat.reduceMul,Int.reduceAdd,Int.reduceSub,Int.reduceMul,Int.reduceNeg,Int.reduceLE,Int.reduceLT,Int.reduceEq,Int.reduceToNat]
      (try simp only [k1, bytes_str, ex,reduceIte,reduceCtorEq,Nat.reduceEqDiff,Nat.reduceLT,Nat.reduceLeDiff,Nat.reduceAdd,Nat.reduceSub,Nat.reduceMul,Int.reduceAdd,Int.reduceSub,Int.reduceMul,Int.reduceNeg,Int.reduceLE,Int.reduceLT,Int.reduceEq,Int.reduceToNat]) <;> repeat ((with_reducible refine Req.intro ?_ ?_); (first | omega | (simp <;> omega)); try simp only [k1, bytes_str, ex,reduceIte,reduceCtorEq,Nat.reduceEqDiff,Nat.reduceLT,Nat.reduceLeDiff,Nat.reduceAdd,Nat.reduceSub,Nat.reduceMul,Int.reduceAdd,Int.reduceSub,Int.reduceMul,Int.reduceNeg,Int.reduceLE,Int.reduceLT,Int.reduceEq,Int.reduceToNat])
    | succ m ih =>
      intro i hi
      have k1 : decide ((i : Int) < (l.length : Int)) = true := by simp; omega
      have g1 : l[i]? = some (l[i]'(by omega)) := List.getElem?_eq_getElem _
      have ht : l.take (i + 1) = l.take i ++ [l[i]'(by omega)] := by rw [List.take_add_one, g1]; rfl
      have hm : l[i]'(by omega) ∈ l := List.getElem_mem _
      have hb1 := flat_len (fun s => s) l 1001 (fun s hs => by
        have h1 := hl.2 s hs
        omega) i
      rw [flatId] at hb1
      generalize l[i]'(by omega) = x at *
      have hx := hl.2 x hm
      have h9 := ih (i + 1) (by omega)
      have he9 : (l.take (i + 1)).flatten.map byteV = (l.take i).flatten.map byteV ++ x.map byteV := by rw [ht]; simp
      rw [he9] at h9
      have hb2 : ((l.take i).flatten.map byteV).length ≤ 1001 * i := by rw [List.length_map]; exact hb1
      generalize (l.take i).flatten.map byteV = acc at *
      apply hL
      simp only [L40_1, l40_1, ex,reduceIte,reduceCtorEq,Nat.reduceEqDiff,Nat.reduceLT,Nat.reduceLeDiff,Nat.reduceAdd,Nat.reduceSub,Nat.reduceMul,Int.reduceAdd,Int.reduceSub,Int.reduceMul,Int.reduceNeg,Int.reduceLE,Int.reduceLT,Int.reduceEq,Int.reduceToNat]
      (try simp only [k1, g1, ex,reduceIte,reduceCtorEq,Nat.reduceEqDiff,Nat.reduceLT,Nat.reduceLeDiff,Nat.reduceAdd,Nat.reduceSub,Nat.reduceMul,Int.reduceAdd,Int.reduceSub,Int.reduceMul,Int.reduceNeg,Int.reduceLE,Int.reduceLT,Int.reduceEq,Int.reduceToNat]) <;> repeat ((with_reducible refine Req.intro ?_ ?_); (first | omega | (simp <;> omega)); try simp only [k1, g1, ex,reduceIte,reduceCtorEq,Nat.reduceEqDiff,Nat.reduceLT,Nat.reduceLeDiff,Nat.reduceAdd,Nat.reduceSub,Nat.reduceMul,Int.reduceAdd,Int.reduceSub,Int.reduceMul,Int.reduceNeg,Int.reduceLE,Int.reduceLT,Int.reduceEq,Int.reduceToNat])
      exact h9
  exact key l.length 0 (Nat.zero_add _)
end Go.Proofs.Ytnodepfoahmcmaa.E.Hs

/- Chapter 12: Mark of both. Conditions: none. -/
namespace Go.Proofs.Ytnodepfoahmcmaa.E.Hs
set_option linter.unusedVariables false
set_option linter.unusedSimpArgs false
set_option maxHeartbeats 20000000
set_option maxRecDepth 100000

def m1 : Sx := [60, 60, 60, 60, 60, 60, 60, 32]
def m2 : Sx := [124, 124, 124, 124, 124, 124, 124, 10]
def m3 : Sx := [61, 61, 61, 61, 61, 61, 61, 10]
def m4 : Sx := [62, 62, 62, 62, 62, 62, 62, 32]
/-- A region as text. -/
def rgT (o t : Sx) (b last : Bool) (r : Rg) : Sx := if r.k = 2 then m1 ++ o ++ [10] ++ ended r.o ++ (if b then m2 ++ ended r.b else []) ++ m3 ++ ended r.t ++ m4 ++ t ++ [10] else if last then r.l.flatten else ended r.l
def mkI (o t : Sx) (b : Bool) (N : Nat) : Nat → List Rg → Sx
  | _, [] => []
  | i, r :: rs => rgT o t b (decide (i + 1 = N)) r ++ mkI o t b N (i + 1) rs
def markR (o t : Sx) (s : Int) (rs : List Rg) : Sx := mkI o t (decide (s = 2)) rs.length 0 rs
def LnR (rs : List Rg) : Prop := rs.length ≤ 10000 ∧ ∀ r ∈ rs, Ln r.l ∧ Ln r.o ∧ Ln r.b ∧ Ln r.t
theorem LnR.ok {rs : List Rg} (h : LnR rs) : OkR rs := ⟨h.1, fun r hr => by
  have := h.2 r hr
  exact ⟨this.1.1, this.2.1.1, this.2.2.1.1, this.2.2.2.1⟩⟩
theorem ended_len (l : List Sx) (h : Ln l) : (ended l).length ≤ 10010000 := lay_len true l h
theorem flatten_len (l : List Sx) (h : Ln l) : l.flatten.length ≤ 10010000 := lay_len false l h
theorem rgT_len (o t : Sx) (b last : Bool) (r : Rg) (h : Ln r.l ∧ Ln r.o ∧ Ln r.b ∧ Ln r.t) (ho : o.length ≤ 1000) (ht : t.length ≤ 1000) : (rgT o t b last r).length ≤ 40000000 := by
  have a1 := ended_len r.l h.1
  have a2 := ended_len r.o h.2.1
  have a3 := ended_len r.b h.2.2.1
  have a4 := ended_len r.t h.2.2.2
  have a5 := flatten_len r.l h.1
  unfold rgT
  split
  · simp only [List.length_append, m1, m3, m4, List.length_cons, List.length_nil]
    split
    · simp only [List.length_append, m2, List.length_cons, List.length_nil]; omega
    · simp only [List.length_nil]; omega
  · split <;> omega
theorem mark1_spec (o : Bool) (rs : List Rg) (a c : Sx) (s : Int) (hok : LnR rs) (ha : a.length ≤ 1000) (hc : c.length ≤ 1000) :
    Run tab 19 0 [.sl o 5 (rs.map rgV), .str a, .str c, .int .i64 s] [] 0 (fun r _ _ => r = .str (markR a c s rs)) := by
  have hl := hok.1
  unfold markR
  generalize ds : decide (s = 2) = b
  refine enter (F := f19) rfl rfl ?_
  simp only [f19, ex,reduceIte,reduceCtorEq,Nat.reduceEqDiff,Nat.reduceLT,Nat.reduceLeDiff,Nat.reduceAdd,Nat.reduceSub,Nat.reduceMul,Int.reduceAdd,Int.reduceSub,Int.reduceMul,Int.reduceNeg,Int.reduceLE,Int.reduceLT,Int.reduceEq,Int.reduceToNat]
  (try simp only [ex,reduceIte,reduceCtorEq,Nat.reduceEqDiff,Nat.reduceLT,Nat.reduceLeDiff,Nat.reduceAdd,Nat.reduceSub,Nat.reduceMul,Int.reduceAdd,Int.reduceSub,Int.reduceMul,Int.reduceNeg,Int.reduceLE,Int.reduceLT,Int.reduceEq,Int.reduceToNat]) <;> repeat ((with_reducible refine Req.intro ?_ ?_); (first | omega | (simp <;> omega)); try simp only [ex,reduceIte,reduceCtorEq,Nat.reduceEqDiff,Nat.reduceLT,Nat.reduceLeDiff,Nat.reduceAdd,Nat.reduceSub,Nat.reduceMul,Int.reduceAdd,Int.reduceSub,Int.reduceMul,Int.reduceNeg,Int.reduceLE,Int.reduceLT,Int.reduceEq,Int.reduceToNat])
  refine loopI fun L hL => ?_
  (try simp only [ex,reduceIte,reduceCtorEq,Nat.reduceEqDiff,Nat.reduceLT,Nat.reduceLeDiff,Nat.reduceAdd,Nat.reduceSub,Nat.reduceMul,Int.reduceAdd,Int.reduceSub,Int.reduceMul,Int.reduceNeg,Int.reduceLE,Int.reduceLT,Int.reduceEq,Int.reduceToNat]) <;> repeat ((with_reducible refine Req.intro ?_ ?_); (first | omega | (simp <;> omega)); try simp only [ex,reduceIte,reduceCtorEq,Nat.reduceEqDiff,Nat.reduceLT,Nat.reduceLeDiff,Nat.reduceAdd,Nat.reduceSub,Nat.reduceMul,Int.reduceAdd,Int.reduceSub,Int.reduceMul,Int.reduceNeg,Int.reduceLE,Int.reduceLT,Int.reduceEq,Int.reduceToNat])
  have key : ∀ (m i N : Nat) (H : Heap) (acc : Sx), i + m = rs.length → acc.length ≤ 40000000 * i → acc ++ mkI a c b rs.length i (rs.drop i) = mkI a c b rs.length 0 rs → get H 0 = some (.bld 55 5 acc) →
      L (L19_1 (.sl o 5 (rs.map rgV)) (.str a) (.str c) (.int .i64 s) (.ptr 0 2 0 0) (.fn 35 [.ptr 0 2 0 0]) (.sl false 5 (rs.map rgV)) (.int .i64 rs.length) (.int .i64 i) H N) := by
    intro m
    induction m with
    | zero =>
      intro i N H acc hi hla he g
      have k1 : decide ((i : Int) < (rs.length : Int)) = false := by simp; omega
      rw [List.drop_of_length_le (by omega), mkI, List.append_nil] at he
      apply hL
      simp only [L19_1, l19_1, ex,reduceIte,reduceCtorEq,Nat.reduceEqDiff,Nat.reduceLT,Nat.reduceLeDiff,Nat.reduceAdd,Nat.reduceSub,Nat.reduceMul,Int.reduceAdd,Int.reduceSub,Int.reduceMul,Int.reduceNeg,Int.reduceLE,Int.reduceLT,Int.reduceEq,Int.reduceToNat]
      (try simp only [k1, ex,reduceIte,reduceCtorEq,Nat.reduceEqDiff,Nat.reduceLT,Nat.reduceLeDiff,Nat.reduceAdd,Nat.reduceSub,Nat.reduceMul,Int.reduceAdd,Int.reduceSub,Int.reduceMul,Int.reduceNeg,Int.reduceLE,Int.reduceLT,Int.reduceEq,Int.reduceToNat]) <;> repeat ((with_reducible refine Req.intro ?_ ?_); (first | omega | (simp <;> omega)); try simp only [k1, ex,reduceIte,reduceCtorEq,Nat.reduceEqDiff,Nat.reduceLT,Nat.reduceLeDiff,Nat.reduceAdd,Nat.reduceSub,Nat.reduceMul,Int.reduceAdd,Int.reduceSub,Int.reduceMul,Int.reduceNeg,Int.reduceLE,Int.reduceLT,Int.reduceEq,Int.reduceToNat])
      refine CallH.any (string_spec 0 2 N acc H g) ?_
      intro r h' n' hh
      have y1 := hh.1
      clear hh
      (try simp only [y1, ex,reduceIte,reduceCtorEq,Nat.reduceEqDiff,Nat.reduceLT,Nat.reduceLeDiff,Nat.reduceAdd,Nat.reduceSub,Nat.reduceMul,Int.reduceAdd,Int.reduceSub,Int.reduceMul,Int.reduceNeg,Int.reduceLE,Int.reduceLT,Int.reduceEq,Int.reduceToNat]) <;> repeat ((with_reducible refine Req.intro ?_ ?_); (first | omega | (simp <;> omega)); try simp only [y1, ex,reduceIte,reduceCtorEq,Nat.reduceEqDiff,Nat.reduceLT,Nat.reduceLeDiff,Nat.reduceAdd,Nat.reduceSub,Nat.reduceMul,Int.reduceAdd,Int.reduceSub,Int.reduceMul,Int.reduceNeg,Int.reduceLE,Int.reduceLT,Int.reduceEq,Int.reduceToNat])
      rw [he]
    | succ m ih =>
      intro i N H acc hi hla he g
      have k1 : decide ((i : Int) < (rs.length : Int)) = true := by simp; omega
      have g1 : rs[i]? = some (rs[i]'(by omega)) := List.getElem?_eq_getElem _
      have hm : rs[i]'(by omega) ∈ rs := List.getElem_mem _
      rw [List.drop_eq_getElem_cons (by omega), mkI, ← List.append_assoc] at he
      generalize rs[i]'(by omega) = r at *
      have hr := hok.2 r hm
      have hT := rgT_len a c b (decide (i + 1 = rs.length)) r hr ha hc
      have hcc : (rgV r).cells = [.int .i64 r.k, .sl false 1 (r.l.map .str), .sl false 1 (r.o.map .str), .sl false 1 (r.b.map .str), .sl false 1 (r.t.map .str)] := rfl
      have h9 := fun N H => ih (i + 1) N H (acc ++ rgT a c b (decide (i + 1 = rs.length)) r) (by omega) (by rw [List.length_append]; omega) he
      rcases Classical.em (r.k = 2) with e | e
      · have e1 : decide (r.k = 2) = true := by simpa using e
        have hT2 : rgT a c b (decide (i + 1 = rs.length)) r = m1 ++ a ++ [10] ++ ended r.o ++ (if b then m2 ++ ended r.b else []) ++ m3 ++ ended r.t ++ m4 ++ c ++ [10] := by unfold rgT; rw [if_pos e]
        have a2 := ended_len r.o hr.2.1
        have a3 := ended_len r.b hr.2.2.1
        have a4 := ended_len r.t hr.2.2.2
        have l1 : m1.length = 8 := rfl
        have l2 : m2.length = 8 := rfl
        have l3 : m3.length = 8 := rfl
        have l4 : m4.length = 8 := rfl
        have lx : (m1 ++ a ++ [10]).length = a.length + 9 := by simp only [List.length_append, List.length_cons, List.length_nil, l1]; omega
        have lz : (m4 ++ c ++ [10]).length = c.length + 9 := by simp only [List.length_append, List.length_cons, List.length_nil, l4]; omega
        have hNN : N + 1 + (N + 1 - (N + 1)) = N + 1 := by omega
        clear hT
        apply hL
        simp only [L19_1, l19_1, ex,reduceIte,reduceCtorEq,Nat.reduceEqDiff,Nat.reduceLT,Nat.reduceLeDiff,Nat.reduceAdd,Nat.reduceSub,Nat.reduceMul,Int.reduceAdd,Int.reduceSub,Int.reduceMul,Int.reduceNeg,Int.reduceLE,Int.reduceLT,Int.reduceEq,Int.reduceToNat]
        (try simp only [k1, g1, hcc, e1, ex,reduceIte,reduceCtorEq,Nat.reduceEqDiff,Nat.reduceLT,Nat.reduceLeDiff,Nat.reduceAdd,Nat.reduceSub,Nat.reduceMul,Int.reduceAdd,Int.reduceSub,Int.reduceMul,Int.reduceNeg,Int.reduceLE,Int.reduceLT,Int.reduceEq,Int.reduceToNat]) <;> repeat ((with_reducible refine Req.intro ?_ ?_); (first | omega | (simp <;> omega)); try simp only [k1, g1, hcc, e1, ex,reduceIte,reduceCtorEq,Nat.reduceEqDiff,Nat.reduceLT,Nat.reduceLeDiff,Nat.reduceAdd,Nat.reduceSub,Nat.reduceMul,Int.reduceAdd,Int.reduceSub,Int.reduceMul,Int.reduceNeg,Int.reduceLE,Int.reduceLT,Int.reduceEq,Int.reduceToNat])
        refine CallH.any (write_spec 0 2 (N + 1) acc (m1 ++ a ++ [10]) H g (by omega)) ?_
        intro r1 H1 n1 hh
        have y2 := hh.2.1.1
        have y3 := hh.2.2
        clear hh
        (try simp only [y3, hNN, ex,reduceIte,reduceCtorEq,Nat.reduceEqDiff,Nat.reduceLT,Nat.reduceLeDiff,Nat.reduceAdd,Nat.reduceSub,Nat.reduceMul,Int.reduceAdd,Int.reduceSub,Int.reduceMul,Int.reduceNeg,Int.reduceLE,Int.reduceLT,Int.reduceEq,Int.reduceToNat]) <;> repeat ((with_reducible refine Req.intro ?_ ?_); (first | omega | (simp <;> omega)); try simp only [y3, hNN, ex,reduceIte,reduceCtorEq,Nat.reduceEqDiff,Nat.reduceLT,Nat.reduceLeDiff,Nat.reduceAdd,Nat.reduceSub,Nat.reduceMul,Int.reduceAdd,Int.reduceSub,Int.reduceMul,Int.reduceNeg,Int.reduceLE,Int.reduceLT,Int.reduceEq,Int.reduceToNat])
        refine CallH.any (lay_spec _ true r.o hr.2.1 0 (N + 1) (acc ++ (m1 ++ a ++ [10])) H1 y2 (by rw [List.length_append]; omega)) ?_
        intro r2 H2 n2 hh
        have z2 := hh.2.1
        have z3 := hh.2.2
        clear hh
        rw [show layT true r.o = ended r.o from rfl] at z2
        (try simp only [z3, hNN, ex,reduceIte,reduceCtorEq,Nat.reduceEqDiff,Nat.reduceLT,Nat.reduceLeDiff,Nat.reduceAdd,Nat.reduceSub,Nat.reduceMul,Int.reduceAdd,Int.reduceSub,Int.reduceMul,Int.reduceNeg,Int.reduceLE,Int.reduceLT,Int.reduceEq,Int.reduceToNat]) <;> repeat ((with_reducible refine Req.intro ?_ ?_); (first | omega | (simp <;> omega)); try simp only [z3, hNN, ex,reduceIte,reduceCtorEq,Nat.reduceEqDiff,Nat.reduceLT,Nat.reduceLeDiff,Nat.reduceAdd,Nat.reduceSub,Nat.reduceMul,Int.reduceAdd,Int.reduceSub,Int.reduceMul,Int.reduceNeg,Int.reduceLE,Int.reduceLT,Int.reduceEq,Int.reduceToNat])
        cases b with
        | true =>
          (try simp only [ds, ex,reduceIte,reduceCtorEq,Nat.reduceEqDiff,Nat.reduceLT,Nat.reduceLeDiff,Nat.reduceAdd,Nat.reduceSub,Nat.reduceMul,Int.reduceAdd,Int.reduceSub,Int.reduceMul,Int.reduceNeg,Int.reduceLE,Int.reduceLT,Int.reduceEq,Int.reduceToNat]) <;> repeat ((with_reducible refine Req.intro ?_ ?_); (first | omega | (simp <;> omega)); try simp only [ds, ex,reduceIte,reduceCtorEq,Nat.reduceEqDiff,Nat.reduceLT,Nat.reduceLeDiff,Nat.reduceAdd,Nat.reduceSub,Nat.reduceMul,Int.reduceAdd,Int.reduceSub,Int.reduceMul,Int.reduceNeg,Int.reduceLE,Int.reduceLT,Int.reduceEq,Int.reduceToNat])
          refine CallH.any (write_spec 0 2 (N + 1) _ m2 H2 z2 (by simp only [List.length_append, l1, l2, List.length_cons, List.length_nil]; omega)) ?_
          intro r3 H3 n3 hh
          have w2 := hh.2.1.1
          have w3 := hh.2.2
          clear hh
          (try simp only [w3, hNN, ex,reduceIte,reduceCtorEq,Nat.reduceEqDiff,Nat.reduceLT,Nat.reduceLeDiff,Nat.reduceAdd,Nat.reduceSub,Nat.reduceMul,Int.reduceAdd,Int.reduceSub,Int.reduceMul,Int.reduceNeg,Int.reduceLE,Int.reduceLT,Int.reduceEq,Int.reduceToNat]) <;> repeat ((with_reducible refine Req.intro ?_ ?_); (first | omega | (simp <;> omega)); try simp only [w3, hNN, ex,reduceIte,reduceCtorEq,Nat.reduceEqDiff,Nat.reduceLT,Nat.reduceLeDiff,Nat.reduceAdd,Nat.reduceSub,Nat.reduceMul,Int.reduceAdd,Int.reduceSub,Int.reduceMul,Int.reduceNeg,Int.reduceLE,Int.reduceLT,Int.reduceEq,Int.reduceToNat])
          refine CallH.any (lay_spec _ true r.b hr.2.2.1 0 (N + 1) _ H3 w2 (by simp only [List.length_append, l1, l2, List.length_cons, List.length_nil]; omega)) ?_
          intro r4 H4 n4 hh
          have x2 := hh.2.1
          have x3 := hh.2.2
          clear hh
          rw [show layT true r.b = ended r.b from rfl] at x2
          (try simp only [x3, hNN, ex,reduceIte,reduceCtorEq,Nat.reduceEqDiff,Nat.reduceLT,Nat.reduceLeDiff,Nat.reduceAdd,Nat.reduceSub,Nat.reduceMul,Int.reduceAdd,Int.reduceSub,Int.reduceMul,Int.reduceNeg,Int.reduceLE,Int.reduceLT,Int.reduceEq,Int.reduceToNat]) <;> repeat ((with_reducible refine Req.intro ?_ ?_); (first | omega | (simp <;> omega)); try simp only [x3, hNN, ex,reduceIte,reduceCtorEq,Nat.reduceEqDiff,Nat.reduceLT,Nat.reduceLeDiff,Nat.reduceAdd,Nat.reduceSub,Nat.reduceMul,Int.reduceAdd,Int.reduceSub,Int.reduceMul,Int.reduceNeg,Int.reduceLE,Int.reduceLT,Int.reduceEq,Int.reduceToNat])
          refine CallH.any (write_spec 0 2 (N + 1) _ m3 H4 x2 (by simp only [List.length_append, l1, l2, l3, List.length_cons, List.length_nil]; omega)) ?_
          intro r5 H5 n5 hh
          have u2 := hh.2.1.1
          have u3 := hh.2.2
          clear hh
          (try simp only [u3, hNN, ex,reduceIte,reduceCtorEq,Nat.reduceEqDiff,Nat.reduceLT,Nat.reduceLeDiff,Nat.reduceAdd,Nat.reduceSub,Nat.reduceMul,Int.reduceAdd,Int.reduceSub,Int.reduceMul,Int.reduceNeg,Int.reduceLE,Int.reduceLT,Int.reduceEq,Int.reduceToNat]) <;> repeat ((with_reducible refine Req.intro ?_ ?_); (first | omega | (simp <;> omega)); try simp only [u3, hNN, ex,reduceIte,reduceCtorEq,Nat.reduceEqDiff,Nat.reduceLT,Nat.reduceLeDiff,Nat.reduceAdd,Nat.reduceSub,Nat.reduceMul,Int.reduceAdd,Int.reduceSub,Int.reduceMul,Int.reduceNeg,Int.reduceLE,Int.reduceLT,Int.reduceEq,Int.reduceToNat])
          refine CallH.any (lay_spec _ true r.t hr.2.2.2 0 (N + 1) _ H5 u2 (by simp only [List.length_append, l1, l2, l3, List.length_cons, List.length_nil]; omega)) ?_
          intro r6 H6 n6 hh
          have v2 := hh.2.1
          have v3 := hh.2.2
          clear hh
          rw [show layT true r.t = ended r.t from rfl] at v2
          (try simp only [v3, hNN, ex,reduceIte,reduceCtorEq,Nat.reduceEqDiff,Nat.reduceLT,Nat.reduceLeDiff,Nat.reduceAdd,Nat.reduceSub,Nat.reduceMul,Int.reduceAdd,Int.reduceSub,Int.reduceMul,Int.reduceNeg,Int.reduceLE,Int.reduceLT,Int.reduceEq,Int.reduceToNat]) <;> repeat ((with_reducible refine Req.intro ?_ ?_); (first | omega | (simp <;> omega)); try simp only [v3, hNN, ex,reduceIte,reduceCtorEq,Nat.reduceEqDiff,Nat.reduceLT,Nat.reduceLeDiff,Nat.reduceAdd,Nat.reduceSub,Nat.reduceMul,Int.reduceAdd,Int.reduceSub,Int.reduceMul,Int.reduceNeg,Int.reduceLE,Int.reduceLT,Int.reduceEq,Int.reduceToNat])
          refine CallH.any (write_spec 0 2 (N + 1) _ (m4 ++ c ++ [10]) H6 v2 (by rw [lz]; simp only [List.length_append, l1, l2, l3, List.length_cons, List.length_nil]; omega)) ?_
          intro r7 H7 n7 hh
          have t2 := hh.2.1.1
          have t3 := hh.2.2
          clear hh
          (try simp only [t3, hNN, ex,reduceIte,reduceCtorEq,Nat.reduceEqDiff,Nat.reduceLT,Nat.reduceLeDiff,Nat.reduceAdd,Nat.reduceSub,Nat.reduceMul,Int.reduceAdd,Int.reduceSub,Int.reduceMul,Int.reduceNeg,Int.reduceLE,Int.reduceLT,Int.reduceEq,Int.reduceToNat]) <;> repeat ((with_reducible refine Req.intro ?_ ?_); (first | omega | (simp <;> omega)); try simp only [t3, hNN, ex,reduceIte,reduceCtorEq,Nat.reduceEqDiff,Nat.reduceLT,Nat.reduceLeDiff,Nat.reduceAdd,Nat.reduceSub,Nat.reduceMul,Int.reduceAdd,Int.reduceSub,Int.reduceMul,Int.reduceNeg,Int.reduceLE,Int.reduceLT,Int.reduceEq,Int.reduceToNat])
          refine h9 (N + 1) H7 ?_
          rw [t2, hT2]
          simp only [if_true, List.append_assoc]
        | false =>
          (try simp only [ds, ex,reduceIte,reduceCtorEq,Nat.reduceEqDiff,Nat.reduceLT,Nat.reduceLeDiff,Nat.reduceAdd,Nat.reduceSub,Nat.reduceMul,Int.reduceAdd,Int.reduceSub,Int.reduceMul,Int.reduceNeg,Int.reduceLE,Int.reduceLT,Int.reduceEq,Int.reduceToNat]) <;> repeat ((with_reducible refine Req.intro ?_ ?_); (first | omega | (simp <;> omega)); try simp only [ds, ex,reduceIte,reduceCtorEq,Nat.reduceEqDiff,Nat.reduceLT,Nat.reduceLeDiff,Nat.reduceAdd,Nat.reduceSub,Nat.reduceMul,Int.reduceAdd,Int.reduceSub,Int.reduceMul,Int.reduceNeg,Int.reduceLE,Int.reduceLT,Int.reduceEq,Int.reduceToNat])
          refine CallH.any (write_spec 0 2 (N + 1) _ m3 H2 z2 (by simp only [List.length_append, l1, l2, l3, List.length_cons, List.length_nil]; omega)) ?_
          intro r5 H5 n5 hh
          have u2 := hh.2.1.1
          have u3 := hh.2.2
          clear hh
          (try simp only [u3, hNN, ex,reduceIte,reduceCtorEq,Nat.reduceEqDiff,Nat.reduceLT,Nat.reduceLeDiff,Nat.reduceAdd,Nat.reduceSub,Nat.reduceMul,Int.reduceAdd,Int.reduceSub,Int.reduceMul,Int.reduceNeg,Int.reduceLE,Int.reduceLT,Int.reduceEq,Int.reduceToNat]) <;> repeat ((with_reducible refine Req.intro ?_ ?_); (first | omega | (simp <;> omega)); try simp only [u3, hNN, ex,reduceIte,reduceCtorEq,Nat.reduceEqDiff,Nat.reduceLT,Nat.reduceLeDiff,Nat.reduceAdd,Nat.reduceSub,Nat.reduceMul,Int.reduceAdd,Int.reduceSub,Int.reduceMul,Int.reduceNeg,Int.reduceLE,Int.reduceLT,Int.reduceEq,Int.reduceToNat])
          refine CallH.any (lay_spec _ true r.t hr.2.2.2 0 (N + 1) _ H5 u2 (by simp only [List.length_append, l1, l2, l3, List.length_cons, List.length_nil]; omega)) ?_
          intro r6 H6 n6 hh
          have v2 := hh.2.1
          have v3 := hh.2.2
          clear hh
          rw [show layT true r.t = ended r.t from rfl] at v2
          (try simp only [v3, hNN, ex,reduceIte,reduceCtorEq,Nat.reduceEqDiff,Nat.reduceLT,Nat.reduceLeDiff,Nat.reduceAdd,Nat.reduceSub,Nat.reduceMul,Int.reduceAdd,Int.reduceSub,Int.reduceMul,Int.reduceNeg,Int.reduceLE,Int.reduceLT,Int.reduceEq,Int.reduceToNat]) <;> repeat ((with_reducible refine Req.intro ?_ ?_); (first | omega | (simp <;> omega)); try simp only [v3, hNN, ex,reduceIte,reduceCtorEq,Nat.reduceEqDiff,Nat.reduceLT,Nat.reduceLeDiff,Nat.reduceAdd,Nat.reduceSub,Nat.reduceMul,Int.reduceAdd,Int.reduceSub,Int.reduceMul,Int.reduceNeg,Int.reduceLE,Int.reduceLT,Int.reduceEq,Int.reduceToNat])
          refine CallH.any (write_spec 0 2 (N + 1) _ (m4 ++ c ++ [10]) H6 v2 (by rw [lz]; simp only [List.length_append, l1, l2, l3, List.length_cons, List.length_nil]; omega)) ?_
          intro r7 H7 n7 hh
          have t2 := hh.2.1.1
          have t3 := hh.2.2
          clear hh
          (try simp only [t3, hNN, ex,reduceIte,reduceCtorEq,Nat.reduceEqDiff,Nat.reduceLT,Nat.reduceLeDiff,Nat.reduceAdd,Nat.reduceSub,Nat.reduceMul,Int.reduceAdd,Int.reduceSub,Int.reduceMul,Int.reduceNeg,Int.reduceLE,Int.reduceLT,Int.reduceEq,Int.reduceToNat]) <;> repeat ((with_reducible refine Req.intro ?_ ?_); (first | omega | (simp <;> omega)); try simp only [t3, hNN, ex,reduceIte,reduceCtorEq,Nat.reduceEqDiff,Nat.reduceLT,Nat.reduceLeDiff,Nat.reduceAdd,Nat.reduceSub,Nat.reduceMul,Int.reduceAdd,Int.reduceSub,Int.reduceMul,Int.reduceNeg,Int.reduceLE,Int.reduceLT,Int.reduceEq,Int.reduceToNat])
          refine h9 (N + 1) H7 ?_
          rw [t2, hT2]
          simp only [Bool.false_eq_true, if_false, List.append_assoc, List.nil_append]
      · have e1 : decide (r.k = 2) = false := by simpa using e
        have hT2 : rgT a c b (decide (i + 1 = rs.length)) r = layT (decide ((i : Int) < (rs.length : Int) - 1)) r.l := by
          unfold rgT layT
          rw [if_neg e]
          rcases Classical.em (i + 1 = rs.length) with q | q
          · rw [if_pos (decide_eq_true q), if_neg (by simp; omega)]
          · rw [if_neg (by simp; omega), if_pos (by simp; omega)]
        have hNN : N + 1 + (N + 1 - (N + 1)) = N + 1 := by omega
        rw [hT2] at h9
        apply hL
        simp only [L19_1, l19_1, ex,reduceIte,reduceCtorEq,Nat.reduceEqDiff,Nat.reduceLT,Nat.reduceLeDiff,Nat.reduceAdd,Nat.reduceSub,Nat.reduceMul,Int.reduceAdd,Int.reduceSub,Int.reduceMul,Int.reduceNeg,Int.reduceLE,Int.reduceLT,Int.reduceEq,Int.reduceToNat]
        (try simp only [k1, g1, hcc, e1, ex,reduceIte,reduceCtorEq,Nat.reduceEqDiff,Nat.reduceLT,Nat.reduceLeDiff,Nat.reduceAdd,Nat.reduceSub,Nat.reduceMul,Int.reduceAdd,Int.reduceSub,Int.reduceMul,Int.reduceNeg,Int.reduceLE,Int.reduceLT,Int.reduceEq,Int.reduceToNat]) <;> repeat ((with_reducible refine Req.intro ?_ ?_); (first | omega | (simp <;> omega)); try simp only [k1, g1, hcc, e1, ex,reduceIte,reduceCtorEq,Nat.reduceEqDiff,Nat.reduceLT,Nat.reduceLeDiff,Nat.reduceAdd,Nat.reduceSub,Nat.reduceMul,Int.reduceAdd,Int.reduceSub,Int.reduceMul,Int.reduceNeg,Int.reduceLE,Int.reduceLT,Int.reduceEq,Int.reduceToNat])
        refine CallH.any (lay_spec _ (decide ((i : Int) < (rs.length : Int) - 1)) r.l hr.1 0 (N + 1) acc H g (by omega)) ?_
        intro r2 H2 n2 hh
        have z2 := hh.2.1
        have z3 := hh.2.2
        clear hh
        (try simp only [z3, hNN, ex,reduceIte,reduceCtorEq,Nat.reduceEqDiff,Nat.reduceLT,Nat.reduceLeDiff,Nat.reduceAdd,Nat.reduceSub,Nat.reduceMul,Int.reduceAdd,Int.reduceSub,Int.reduceMul,Int.reduceNeg,Int.reduceLE,Int.reduceLT,Int.reduceEq,Int.reduceToNat]) <;> repeat ((with_reducible refine Req.intro ?_ ?_); (first | omega | (simp <;> omega)); try simp only [z3, hNN, ex,reduceIte,reduceCtorEq,Nat.reduceEqDiff,Nat.reduceLT,Nat.reduceLeDiff,Nat.reduceAdd,Nat.reduceSub,Nat.reduceMul,Int.reduceAdd,Int.reduceSub,Int.reduceMul,Int.reduceNeg,Int.reduceLE,Int.reduceLT,Int.reduceEq,Int.reduceToNat])
        exact h9 (N + 1) H2 z2
  exact key rs.length 0 1 [(0, .bld 55 5 [])] [] (Nat.zero_add _) (by simp) (by simp) rfl
theorem mark2_spec (o : Bool) (rs : List Rg) (a c : Sx) (s : Int) (hok : LnR rs) (ha : a.length ≤ 1000) (hc : c.length ≤ 1000) :
    Run tab 20 0 [.sl o 5 (rs.map rgV), .str a, .str c, .int .i64 s] [] 0 (fun r _ _ => r = .str (markR a c s rs)) := by
  have hl := hok.1
  unfold markR
  generalize ds : decide (s = 2) = b
  refine enter (F := f20) rfl rfl ?_
  simp only [f20, ex,reduceIte,reduceCtorEq,Nat.reduceEqDiff,Nat.reduceLT,Nat.reduceLeDiff,Nat.reduceAdd,Nat.reduceSub,Nat.reduceMul,Int.reduceAdd,Int.reduceSub,Int.reduceMul,Int.reduceNeg,Int.reduceLE,Int.reduceLT,Int.reduceEq,Int.reduceToNat]
  (try simp only [ex,reduceIte,reduceCtorEq,Nat.reduceEqDiff,Nat.reduceLT,Nat.reduceLeDiff,Nat.reduceAdd,Nat.reduceSub,Nat.reduceMul,Int.reduceAdd,Int.reduceSub,Int.reduceMul,Int.reduceNeg,Int.reduceLE,Int.reduceLT,Int.reduceEq,Int.reduceToNat]) <;> repeat ((with_reducible refine Req.intro ?_ ?_); (first | omega | (simp <;> omega)); try simp only [ex,reduceIte,reduceCtorEq,Nat.reduceEqDiff,Nat.reduceLT,Nat.reduceLeDiff,Nat.reduceAdd,Nat.reduceSub,Nat.reduceMul,Int.reduceAdd,Int.reduceSub,Int.reduceMul,Int.reduceNeg,Int.reduceLE,Int.reduceLT,Int.reduceEq,Int.reduceToNat])
  refine loopI fun L hL => ?_
  (try simp only [ex,reduceIte,reduceCtorEq,Nat.reduceEqDiff,Nat.reduceLT,Nat.reduceLeDiff,Nat.reduceAdd,Nat.reduceSub,Nat.reduceMul,Int.reduceAdd,Int.reduceSub,Int.reduceMul,Int.reduceNeg,Int.reduceLE,Int.reduceLT,Int.reduceEq,Int.reduceToNat]) <;> repeat ((with_reducible refine Req.intro ?_ ?_); (first | omega | (simp <;> omega)); try simp only [ex,reduceIte,reduceCtorEq,Nat.reduceEqDiff,Nat.reduceLT,Nat.reduceLeDiff,Nat.reduceAdd,Nat.reduceSub,Nat.reduceMul,Int.reduceAdd,Int.reduceSub,Int.reduceMul,Int.reduceNeg,Int.reduceLE,Int.reduceLT,Int.reduceEq,Int.reduceToNat])
  have key : ∀ (m i N : Nat) (acc : Sx), i + m = rs.length → acc.length ≤ 40000000 * i → acc ++ mkI a c b rs.length i (rs.drop i) = mkI a c b rs.length 0 rs →
      L (L20_1 (.sl o 5 (rs.map rgV)) (.str a) (.str c) (.int .i64 s) (.str acc) (.int .i64 i) [] N) := by
    intro m
    induction m with
    | zero =>
      intro i N acc hi hla he
      have k1 : decide ((i : Int) < (rs.length : Int)) = false := by simp; omega
      rw [List.drop_of_length_le (by omega), mkI, List.append_nil] at he
      apply hL
      simp only [L20_1, l20_1, ex,reduceIte,reduceCtorEq,Nat.reduceEqDiff,Nat.reduceLT,Nat.reduceLeDiff,Nat.reduceAdd,Nat.reduceSub,Nat.reduceMul,Int.reduceAdd,Int.reduceSub,Int.reduceMul,Int.reduceNeg,Int.reduceLE,Int.reduceLT,Int.reduceEq,Int.reduceToNat]
      (try simp only [k1, ex,reduceIte,reduceCtorEq,Nat.reduceEqDiff,Nat.reduceLT,Nat.reduceLeDiff,Nat.reduceAdd,Nat.reduceSub,Nat.reduceMul,Int.reduceAdd,Int.reduceSub,Int.reduceMul,Int.reduceNeg,Int.reduceLE,Int.reduceLT,Int.reduceEq,Int.reduceToNat]) <;> repeat ((with_reducible refine Req.intro ?_ ?_); (first | omega | (simp <;> omega)); try simp only [k1, ex,reduceIte,reduceCtorEq,Nat.reduceEqDiff,Nat.reduceLT,Nat.reduceLeDiff,Nat.reduceAdd,Nat.reduceSub,Nat.reduceMul,Int.reduceAdd,Int.reduceSub,Int.reduceMul,Int.reduceNeg,Int.reduceLE,Int.reduceLT,Int.reduceEq,Int.reduceToNat])
      rw [he]
    | succ m ih =>
      intro i N acc hi hla he
      have k1 : decide ((i : Int) < (rs.length : Int)) = true := by simp; omega
      have g1 : rs[i]? = some (rs[i]'(by omega)) := List.getElem?_eq_getElem _
      have hm : rs[i]'(by omega) ∈ rs := List.getElem_mem _
      rw [List.drop_eq_getElem_cons (by omega), mkI, ← List.append_assoc] at he
      generalize rs[i]'(by omega) = r at *
      have hr := hok.2 r hm
      have hT := rgT_len a c b (decide (i + 1 = rs.length)) r hr ha hc
      have hcc : (rgV r).cells = [.int .i64 r.k, .sl false 1 (r.l.map .str), .sl false 1 (r.o.map .str), .sl false 1 (r.b.map .str), .sl false 1 (r.t.map .str)] := rfl
      have h9 := fun N => ih (i + 1) N (acc ++ rgT a c b (decide (i + 1 = rs.length)) r) (by omega) (by rw [List.length_append]; omega) he
      have a1 := ended_len r.l hr.1
      have a2 := ended_len r.o hr.2.1
      have a3 := ended_len r.b hr.2.2.1
      have a4 := ended_len r.t hr.2.2.2
      have a5 := flatten_len r.l hr.1
      have l1 : m1.length = 8 := rfl
      have l2 : m2.length = 8 := rfl
      have l3 : m3.length = 8 := rfl
      have l4 : m4.length = 8 := rfl
      have q1 : ([60, 60, 60, 60, 60, 60, 60, 32] : Sx) = m1 := rfl
      have q2 : ([124, 124, 124, 124, 124, 124, 124, 10] : Sx) = m2 := rfl
      have q3 : ([61, 61, 61, 61, 61, 61, 61, 10] : Sx) = m3 := rfl
      have q4 : ([62, 62, 62, 62, 62, 62, 62, 32] : Sx) = m4 := rfl
      rcases Classical.em (r.k = 2) with e | e
      · have e1 : decide (r.k = 2) = true := by simpa using e
        have hT2 : rgT a c b (decide (i + 1 = rs.length)) r = m1 ++ a ++ [10] ++ ended r.o ++ (if b then m2 ++ ended r.b else []) ++ m3 ++ ended r.t ++ m4 ++ c ++ [10] := by unfold rgT; rw [if_pos e]
        rw [hT2] at h9
        clear hT hT2 he
        apply hL
        simp only [L20_1, l20_1, ex,reduceIte,reduceCtorEq,Nat.reduceEqDiff,Nat.reduceLT,Nat.reduceLeDiff,Nat.reduceAdd,Nat.reduceSub,Nat.reduceMul,Int.reduceAdd,Int.reduceSub,Int.reduceMul,Int.reduceNeg,Int.reduceLE,Int.reduceLT,Int.reduceEq,Int.reduceToNat]
        (try simp only [k1, g1, hcc, e1, q1, q2, q3, q4, List.length_append, l1, List.length_cons, List.length_nil, ex,reduceIte,reduceCtorEq,Nat.reduceEqDiff,Nat.reduceLT,Nat.reduceLeDiff,Nat.reduceAdd,Nat.reduceSub,Nat.reduceMul,Int.reduceAdd,Int.reduceSub,Int.reduceMul,Int.reduceNeg,Int.reduceLE,Int.reduceLT,Int.reduceEq,Int.reduceToNat]) <;> repeat ((with_reducible refine Req.intro ?_ ?_); (first | omega | (simp <;> omega)); try simp only [k1, g1, hcc, e1, q1, q2, q3, q4, List.length_append, l1, List.length_cons, List.length_nil, ex,reduceIte,reduceCtorEq,Nat.reduceEqDiff,Nat.reduceLT,Nat.reduceLeDiff,Nat.reduceAdd,Nat.reduceSub,Nat.reduceMul,Int.reduceAdd,Int.reduceSub,Int.reduceMul,Int.reduceNeg,Int.reduceLE,Int.reduceLT,Int.reduceEq,Int.reduceToNat])
        refine CallA.eq rfl (ended_spec _ r.o hr.2.1) rfl ?_
        (try simp only [q1, q2, q3, q4, List.length_append, l1, List.length_cons, List.length_nil, ex,reduceIte,reduceCtorEq,Nat.reduceEqDiff,Nat.reduceLT,Nat.reduceLeDiff,Nat.reduceAdd,Nat.reduceSub,Nat.reduceMul,Int.reduceAdd,Int.reduceSub,Int.reduceMul,Int.reduceNeg,Int.reduceLE,Int.reduceLT,Int.reduceEq,Int.reduceToNat]) <;> repeat ((with_reducible refine Req.intro ?_ ?_); (first | omega | (simp <;> omega)); try simp only [q1, q2, q3, q4, List.length_append, l1, List.length_cons, List.length_nil, ex,reduceIte,reduceCtorEq,Nat.reduceEqDiff,Nat.reduceLT,Nat.reduceLeDiff,Nat.reduceAdd,Nat.reduceSub,Nat.reduceMul,Int.reduceAdd,Int.reduceSub,Int.reduceMul,Int.reduceNeg,Int.reduceLE,Int.reduceLT,Int.reduceEq,Int.reduceToNat])
        cases b with
        | true =>
          (try simp only [ds, q1, q2, q3, q4, List.length_append, l1, l2, List.length_cons, List.length_nil, ex,reduceIte,reduceCtorEq,Nat.reduceEqDiff,Nat.reduceLT,Nat.reduceLeDiff,Nat.reduceAdd,Nat.reduceSub,Nat.reduceMul,Int.reduceAdd,Int.reduceSub,Int.reduceMul,Int.reduceNeg,Int.reduceLE,Int.reduceLT,Int.reduceEq,Int.reduceToNat]) <;> repeat ((with_reducible refine Req.intro ?_ ?_); (first | omega | (simp <;> omega)); try simp only [ds, q1, q2, q3, q4, List.length_append, l1, l2, List.length_cons, List.length_nil, ex,reduceIte,reduceCtorEq,Nat.reduceEqDiff,Nat.reduceLT,Nat.reduceLeDiff,Nat.reduceAdd,Nat.reduceSub,Nat.reduceMul,Int.reduceAdd,Int.reduceSub,Int.reduceMul,Int.reduceNeg,Int.reduceLE,Int.reduceLT,Int.reduceEq,Int.reduceToNat])
          refine CallA.eq rfl (ended_spec _ r.b hr.2.2.1) rfl ?_
          (try simp only [q1, q2, q3, q4, List.length_append, l1, l2, l3, List.length_cons, List.length_nil, ex,reduceIte,reduceCtorEq,Nat.reduceEqDiff,Nat.reduceLT,Nat.reduceLeDiff,Nat.reduceAdd,Nat.reduceSub,Nat.reduceMul,Int.reduceAdd,Int.reduceSub,Int.reduceMul,Int.reduceNeg,Int.reduceLE,Int.reduceLT,Int.reduceEq,Int.reduceToNat]) <;> repeat ((with_reducible refine Req.intro ?_ ?_); (first | omega | (simp <;> omega)); try simp only [q1, q2, q3, q4, List.length_append, l1, l2, l3, List.length_cons, List.length_nil, ex,reduceIte,reduceCtorEq,Nat.reduceEqDiff,Nat.reduceLT,Nat.reduceLeDiff,Nat.reduceAdd,Nat.reduceSub,Nat.reduceMul,Int.reduceAdd,Int.reduceSub,Int.reduceMul,Int.reduceNeg,Int.reduceLE,Int.reduceLT,Int.reduceEq,Int.reduceToNat])
          refine CallA.eq rfl (ended_spec _ r.t hr.2.2.2) rfl ?_
          (try simp only [q1, q2, q3, q4, List.length_append, l1, l2, l3, l4, List.length_cons, List.length_nil, ex,reduceIte,reduceCtorEq,Nat.reduceEqDiff,Nat.reduceLT,Nat.reduceLeDiff,Nat.reduceAdd,Nat.reduceSub,Nat.reduceMul,Int.reduceAdd,Int.reduceSub,Int.reduceMul,Int.reduceNeg,Int.reduceLE,Int.reduceLT,Int.reduceEq,Int.reduceToNat]) <;> repeat ((with_reducible refine Req.intro ?_ ?_); (first | omega | (simp <;> omega)); try simp only [q1, q2, q3, q4, List.length_append, l1, l2, l3, l4, List.length_cons, List.length_nil, ex,reduceIte,reduceCtorEq,Nat.reduceEqDiff,Nat.reduceLT,Nat.reduceLeDiff,Nat.reduceAdd,Nat.reduceSub,Nat.reduceMul,Int.reduceAdd,Int.reduceSub,Int.reduceMul,Int.reduceNeg,Int.reduceLE,Int.reduceLT,Int.reduceEq,Int.reduceToNat])
          have h8 := h9 (N + 1)
          simp only [if_true, List.append_assoc] at h8 ⊢
          exact h8
        | false =>
          (try simp only [ds, q1, q2, q3, q4, List.length_append, l1, l2, l3, List.length_cons, List.length_nil, ex,reduceIte,reduceCtorEq,Nat.reduceEqDiff,Nat.reduceLT,Nat.reduceLeDiff,Nat.reduceAdd,Nat.reduceSub,Nat.reduceMul,Int.reduceAdd,Int.reduceSub,Int.reduceMul,Int.reduceNeg,Int.reduceLE,Int.reduceLT,Int.reduceEq,Int.reduceToNat]) <;> repeat ((with_reducible refine Req.intro ?_ ?_); (first | omega | (simp <;> omega)); try simp only [ds, q1, q2, q3, q4, List.length_append, l1, l2, l3, List.length_cons, List.length_nil, ex,reduceIte,reduceCtorEq,Nat.reduceEqDiff,Nat.reduceLT,Nat.reduceLeDiff,Nat.reduceAdd,Nat.reduceSub,Nat.reduceMul,Int.reduceAdd,Int.reduceSub,Int.reduceMul,Int.reduceNeg,Int.reduceLE,Int.reduceLT,Int.reduceEq,Int.reduceToNat])
          refine CallA.eq rfl (ended_spec _ r.t hr.2.2.2) rfl ?_
          (try simp only [q1, q2, q3, q4, List.length_append, l1, l2, l3, l4, List.length_cons, List.length_nil, ex,reduceIte,reduceCtorEq,Nat.reduceEqDiff,Nat.reduceLT,Nat.reduceLeDiff,Nat.reduceAdd,Nat.reduceSub,Nat.reduceMul,Int.reduceAdd,Int.reduceSub,Int.reduceMul,Int.reduceNeg,Int.reduceLE,Int.reduceLT,Int.reduceEq,Int.reduceToNat]) <;> repeat ((with_reducible refine Req.intro ?_ ?_); (first | omega | (simp <;> omega)); try simp only [q1, q2, q3, q4, List.length_append, l1, l2, l3, l4, List.length_cons, List.length_nil, ex,reduceIte,reduceCtorEq,Nat.reduceEqDiff,Nat.reduceLT,Nat.reduceLeDiff,Nat.reduceAdd,Nat.reduceSub,Nat.reduceMul,Int.reduceAdd,Int.reduceSub,Int.reduceMul,Int.reduceNeg,Int.reduceLE,Int.reduceLT,Int.reduceEq,Int.reduceToNat])
          have h8 := h9 (N + 1)
          simp only [Bool.false_eq_true, if_false, List.append_assoc, List.nil_append] at h8 ⊢
          exact h8
      · have e1 : decide (r.k = 2) = false := by simpa using e
        rcases Classical.em (i + 1 = rs.length) with q | q
        · have e2 : decide ((i : Int) < (rs.length : Int) - 1) = false := by simp; omega
          have hT2 : rgT a c b (decide (i + 1 = rs.length)) r = r.l.flatten := by
            unfold rgT
            rw [if_neg e, if_pos (decide_eq_true q)]
          rw [hT2] at h9
          apply hL
          simp only [L20_1, l20_1, ex,reduceIte,reduceCtorEq,Nat.reduceEqDiff,Nat.reduceLT,Nat.reduceLeDiff,Nat.reduceAdd,Nat.reduceSub,Nat.reduceMul,Int.reduceAdd,Int.reduceSub,Int.reduceMul,Int.reduceNeg,Int.reduceLE,Int.reduceLT,Int.reduceEq,Int.reduceToNat]
          (try simp only [k1, g1, hcc, e1, e2, ex,reduceIte,reduceCtorEq,Nat.reduceEqDiff,Nat.reduceLT,Nat.reduceLeDiff,Nat.reduceAdd,Nat.reduceSub,Nat.reduceMul,Int.reduceAdd,Int.reduceSub,Int.reduceMul,Int.reduceNeg,Int.reduceLE,Int.reduceLT,Int.reduceEq,Int.reduceToNat]) <;> repeat ((with_reducible refine Req.intro ?_ ?_); (first | omega | (simp <;> omega)); try simp only [k1, g1, hcc, e1, e2, ex,reduceIte,reduceCtorEq,Nat.reduceEqDiff,Nat.reduceLT,Nat.reduceLeDiff,Nat.reduceAdd,Nat.reduceSub,Nat.reduceMul,Int.reduceAdd,Int.reduceSub,Int.reduceMul,Int.reduceNeg,Int.reduceLE,Int.reduceLT,Int.reduceEq,Int.reduceToNat])
          refine CallA.eq rfl (join_spec _ r.l hr.1) rfl ?_
          (try simp only [ex,reduceIte,reduceCtorEq,Nat.reduceEqDiff,Nat.reduceLT,Nat.reduceLeDiff,Nat.reduceAdd,Nat.reduceSub,Nat.reduceMul,Int.reduceAdd,Int.reduceSub,Int.reduceMul,Int.reduceNeg,Int.reduceLE,Int.reduceLT,Int.reduceEq,Int.reduceToNat]) <;> repeat ((with_reducible refine Req.intro ?_ ?_); (first | omega | (simp <;> omega)); try simp only [ex,reduceIte,reduceCtorEq,Nat.reduceEqDiff,Nat.reduceLT,Nat.reduceLeDiff,Nat.reduceAdd,Nat.reduceSub,Nat.reduceMul,Int.reduceAdd,Int.reduceSub,Int.reduceMul,Int.reduceNeg,Int.reduceLE,Int.reduceLT,Int.reduceEq,Int.reduceToNat])
          exact h9 _
        · have e2 : decide ((i : Int) < (rs.length : Int) - 1) = true := by simp; omega
          have hT2 : rgT a c b (decide (i + 1 = rs.length)) r = ended r.l := by
            unfold rgT
            rw [if_neg e, if_neg (by simp; omega)]
          rw [hT2] at h9
          apply hL
          simp only [L20_1, l20_1, ex,reduceIte,reduceCtorEq,Nat.reduceEqDiff,Nat.reduceLT,Nat.reduceLeDiff,Nat.reduceAdd,Nat.reduceSub,Nat.reduceMul,Int.reduceAdd,Int.reduceSub,Int.reduceMul,Int.reduceNeg,Int.reduceLE,Int.reduceLT,Int.reduceEq,Int.reduceToNat]
          (try simp only [k1, g1, hcc, e1, e2, ex,reduceIte,reduceCtorEq,Nat.reduceEqDiff,Nat.reduceLT,Nat.reduceLeDiff,Nat.reduceAdd,Nat.reduceSub,Nat.reduceMul,Int.reduceAdd,Int.reduceSub,Int.reduceMul,Int.reduceNeg,Int.reduceLE,Int.reduceLT,Int.reduceEq,Int.reduceToNat]) <;> repeat ((with_reducible refine Req.intro ?_ ?_); (first | omega | (simp <;> omega)); try simp only [k1, g1, hcc, e1, e2, ex,reduceIte,reduceCtorEq,Nat.reduceEqDiff,Nat.reduceLT,Nat.reduceLeDiff,Nat.reduceAdd,Nat.reduceSub,Nat.reduceMul,Int.reduceAdd,Int.reduceSub,Int.reduceMul,Int.reduceNeg,Int.reduceLE,Int.reduceLT,Int.reduceEq,Int.reduceToNat])
          refine CallA.eq rfl (ended_spec _ r.l hr.1) rfl ?_
          (try simp only [ex,reduceIte,reduceCtorEq,Nat.reduceEqDiff,Nat.reduceLT,Nat.reduceLeDiff,Nat.reduceAdd,Nat.reduceSub,Nat.reduceMul,Int.reduceAdd,Int.reduceSub,Int.reduceMul,Int.reduceNeg,Int.reduceLE,Int.reduceLT,Int.reduceEq,Int.reduceToNat]) <;> repeat ((with_reducible refine Req.intro ?_ ?_); (first | omega | (simp <;> omega)); try simp only [ex,reduceIte,reduceCtorEq,Nat.reduceEqDiff,Nat.reduceLT,Nat.reduceLeDiff,Nat.reduceAdd,Nat.reduceSub,Nat.reduceMul,Int.reduceAdd,Int.reduceSub,Int.reduceMul,Int.reduceNeg,Int.reduceLE,Int.reduceLT,Int.reduceEq,Int.reduceToNat])
          exact h9 _
  exact key rs.length 0 0 [] (Nat.zero_add _) (by simp) (by simp)
end Go.Proofs.Ytnodepfoahmcmaa.E.Hs

/- Fixed examples of chapter 12: run outright. Conditions: none. -/
namespace Go.Proofs.Ytnodepfoahmcmaa.E.Hs
set_option linter.unusedVariables false
theorem lives_spec : Run tab 9 0 [] [] 0 (fun r _ _ => r = .bool true) := by
  have h : (evF tab 1000 9 0 [] [] 0).map (fun q => match q.1 with | .bool b => b | _ => false) = some true := by kernel_rfl
  obtain ⟨q, h1, h2⟩ := Option.map_eq_some_iff.1 h
  refine (run_ev 1000 h1).weaken fun r h n hh => ?_
  have e := hh.1
  rw [e]
  generalize q.1 = y at h2
  cases y <;> first | (cases h2; done) | (simp only at h2; rw [h2])
end Go.Proofs.Ytnodepfoahmcmaa.E.Hs

/- Chapter 12: the law ThreeTells. Conditions: none. -/
namespace Go.Proofs.Ytnodepfoahmcmaa.E.Hs
set_option linter.unusedVariables false
set_option linter.unusedSimpArgs false
set_option maxHeartbeats 20000000
set_option maxRecDepth 100000

abbrev RgT := Int × List Sx × List Sx × List Sx × List Sx
def toRg (x : RgT) : Rg := ⟨x.1, x.2.1, x.2.2.1, x.2.2.2.1, x.2.2.2.2⟩
theorem few_ln {rs : List Rg} (h : few rs = true) : LnR rs := by
  unfold few at h
  rw [Bool.and_eq_true, List.all_eq_true] at h
  have hl : rs.length ≤ 30 := by simpa using h.1
  refine ⟨by omega, fun r hr => ?_⟩
  have := h.2 r hr
  unfold fewR at this
  simp only [Bool.and_eq_true] at this
  have ln : ∀ a : List Sx, small a = true → Ln a := fun a ha => by
    have := small_len ha
    exact ⟨by omega, fun s hs => by have := this.2 s hs; omega⟩
  exact ⟨ln _ this.1.1.1.2, ln _ this.1.1.2, ln _ this.1.2, ln _ this.2⟩
theorem linesR_len (s : Int) (rs : List Rg) (h : few rs = true) : (linesR s rs).length ≤ 1000000 := by
  have h1 := lnR_len (decide (s = 1) || decide (s = 3)) (decide (s = 2) || decide (s = 3)) rs (few_ok h) rs.length
  rw [List.take_length] at h1
  unfold few at h
  rw [Bool.and_eq_true] at h
  have hl : rs.length ≤ 30 := by simpa using h.1
  unfold linesR
  omega
theorem law_ThreeTells (a : List RgT) (s : Int) (o t : Sx) (st : Int) (hl : a.length ≤ 17592186044416) (hg : ∀ x ∈ a, x.2.1.length ≤ 17592186044416 ∧ x.2.2.1.length ≤ 17592186044416 ∧ x.2.2.2.1.length ≤ 17592186044416 ∧ x.2.2.2.2.length ≤ 17592186044416)
    (ho : o.length ≤ 140737488351232) (ht : t.length ≤ 140737488351232) :
    Run tab 4 0 [.sl false 5 (a.map fun x => .agg [.int .i64 x.1, .sl false 1 (x.2.1.map .str), .sl false 1 (x.2.2.1.map .str), .sl false 1 (x.2.2.2.1.map .str), .sl false 1 (x.2.2.2.2.map .str)]), .int .i64 s, .str o, .str t, .int .i64 st] [] 0 (fun r _ _ => r = .bool true) := by
  have e0 : (a.map fun x : RgT => V.agg [.int .i64 x.1, .sl false 1 (x.2.1.map .str), .sl false 1 (x.2.2.1.map .str), .sl false 1 (x.2.2.2.1.map .str), .sl false 1 (x.2.2.2.2.map .str)]) = (a.map toRg).map rgV := by rw [List.map_map]; rfl
  rw [e0]
  have hl2 : (a.map toRg).length ≤ 17592186044416 := by rw [List.length_map]; exact hl
  have hg2 : ∀ r ∈ a.map toRg, r.l.length ≤ 17592186044416 ∧ r.o.length ≤ 17592186044416 ∧ r.b.length ≤ 17592186044416 ∧ r.t.length ≤ 17592186044416 := fun r hr => by
    obtain ⟨x, hx, rfl⟩ := List.mem_map.1 hr
    exact hg x hx
  generalize a.map toRg = rs at *
  clear hl hg e0
  refine enter (F := f4) rfl rfl ?_
  simp only [f4, ex,reduceIte,reduceCtorEq,Nat.reduceEqDiff,Nat.reduceLT,Nat.reduceLeDiff,Nat.reduceAdd,Nat.reduceSub,Nat.reduceMul,Int.reduceAdd,Int.reduceSub,Int.reduceMul,Int.reduceNeg,Int.reduceLE,Int.reduceLT,Int.reduceEq,Int.reduceToNat]
  (try simp only [ex,reduceIte,reduceCtorEq,Nat.reduceEqDiff,Nat.reduceLT,Nat.reduceLeDiff,Nat.reduceAdd,Nat.reduceSub,Nat.reduceMul,Int.reduceAdd,Int.reduceSub,Int.reduceMul,Int.reduceNeg,Int.reduceLE,Int.reduceLT,Int.reduceEq,Int.reduceToNat]) <;> repeat ((with_reducible refine Req.intro ?_ ?_); (first | omega | (simp <;> omega)); try simp only [ex,reduceIte,reduceCtorEq,Nat.reduceEqDiff,Nat.reduceLT,Nat.reduceLeDiff,Nat.reduceAdd,Nat.reduceSub,Nat.reduceMul,Int.reduceAdd,Int.reduceSub,Int.reduceMul,Int.reduceNeg,Int.reduceLE,Int.reduceLT,Int.reduceEq,Int.reduceToNat])
  refine CallA.eq rfl (few_spec _ rs hl2 hg2) rfl ?_
  cases hf : few rs with
  | false =>
    (try simp only [ex,reduceIte,reduceCtorEq,Nat.reduceEqDiff,Nat.reduceLT,Nat.reduceLeDiff,Nat.reduceAdd,Nat.reduceSub,Nat.reduceMul,Int.reduceAdd,Int.reduceSub,Int.reduceMul,Int.reduceNeg,Int.reduceLE,Int.reduceLT,Int.reduceEq,Int.reduceToNat]) <;> repeat ((with_reducible refine Req.intro ?_ ?_); (first | omega | (simp <;> omega)); try simp only [ex,reduceIte,reduceCtorEq,Nat.reduceEqDiff,Nat.reduceLT,Nat.reduceLeDiff,Nat.reduceAdd,Nat.reduceSub,Nat.reduceMul,Int.reduceAdd,Int.reduceSub,Int.reduceMul,Int.reduceNeg,Int.reduceLE,Int.reduceLT,Int.reduceEq,Int.reduceToNat])
    refine CallA.eq rfl lives_spec rfl ?_
    (try simp only [ex,reduceIte,reduceCtorEq,Nat.reduceEqDiff,Nat.reduceLT,Nat.reduceLeDiff,Nat.reduceAdd,Nat.reduceSub,Nat.reduceMul,Int.reduceAdd,Int.reduceSub,Int.reduceMul,Int.reduceNeg,Int.reduceLE,Int.reduceLT,Int.reduceEq,Int.reduceToNat]) <;> repeat ((with_reducible refine Req.intro ?_ ?_); (first | omega | (simp <;> omega)); try simp only [ex,reduceIte,reduceCtorEq,Nat.reduceEqDiff,Nat.reduceLT,Nat.reduceLeDiff,Nat.reduceAdd,Nat.reduceSub,Nat.reduceMul,Int.reduceAdd,Int.reduceSub,Int.reduceMul,Int.reduceNeg,Int.reduceLE,Int.reduceLT,Int.reduceEq,Int.reduceToNat])
  | true =>
    have hok := few_ok hf
    have hln := few_ln hf
    have hll := linesR_len s rs hf
    (try simp only [ex,reduceIte,reduceCtorEq,Nat.reduceEqDiff,Nat.reduceLT,Nat.reduceLeDiff,Nat.reduceAdd,Nat.reduceSub,Nat.reduceMul,Int.reduceAdd,Int.reduceSub,Int.reduceMul,Int.reduceNeg,Int.reduceLE,Int.reduceLT,Int.reduceEq,Int.reduceToNat]) <;> repeat ((with_reducible refine Req.intro ?_ ?_); (first | omega | (simp <;> omega)); try simp only [ex,reduceIte,reduceCtorEq,Nat.reduceEqDiff,Nat.reduceLT,Nat.reduceLeDiff,Nat.reduceAdd,Nat.reduceSub,Nat.reduceMul,Int.reduceAdd,Int.reduceSub,Int.reduceMul,Int.reduceNeg,Int.reduceLE,Int.reduceLT,Int.reduceEq,Int.reduceToNat])
    rcases Classical.em ((o.length : Int) + (t.length : Int) > 400) with c | c
    · have d1 : decide ((o.length : Int) + (t.length : Int) > 400) = true := decide_eq_true c
      (try simp only [d1, ex,reduceIte,reduceCtorEq,Nat.reduceEqDiff,Nat.reduceLT,Nat.reduceLeDiff,Nat.reduceAdd,Nat.reduceSub,Nat.reduceMul,Int.reduceAdd,Int.reduceSub,Int.reduceMul,Int.reduceNeg,Int.reduceLE,Int.reduceLT,Int.reduceEq,Int.reduceToNat]) <;> repeat ((with_reducible refine Req.intro ?_ ?_); (first | omega | (simp <;> omega)); try simp only [d1, ex,reduceIte,reduceCtorEq,Nat.reduceEqDiff,Nat.reduceLT,Nat.reduceLeDiff,Nat.reduceAdd,Nat.reduceSub,Nat.reduceMul,Int.reduceAdd,Int.reduceSub,Int.reduceMul,Int.reduceNeg,Int.reduceLE,Int.reduceLT,Int.reduceEq,Int.reduceToNat])
      refine CallA.eq rfl lives_spec rfl ?_
      (try simp only [ex,reduceIte,reduceCtorEq,Nat.reduceEqDiff,Nat.reduceLT,Nat.reduceLeDiff,Nat.reduceAdd,Nat.reduceSub,Nat.reduceMul,Int.reduceAdd,Int.reduceSub,Int.reduceMul,Int.reduceNeg,Int.reduceLE,Int.reduceLT,Int.reduceEq,Int.reduceToNat]) <;> repeat ((with_reducible refine Req.intro ?_ ?_); (first | omega | (simp <;> omega)); try simp only [ex,reduceIte,reduceCtorEq,Nat.reduceEqDiff,Nat.reduceLT,Nat.reduceLeDiff,Nat.reduceAdd,Nat.reduceSub,Nat.reduceMul,Int.reduceAdd,Int.reduceSub,Int.reduceMul,Int.reduceNeg,Int.reduceLE,Int.reduceLT,Int.reduceEq,Int.reduceToNat])
    · have d1 : decide ((o.length : Int) + (t.length : Int) > 400) = false := decide_eq_false c
      (try simp only [d1, ex,reduceIte,reduceCtorEq,Nat.reduceEqDiff,Nat.reduceLT,Nat.reduceLeDiff,Nat.reduceAdd,Nat.reduceSub,Nat.reduceMul,Int.reduceAdd,Int.reduceSub,Int.reduceMul,Int.reduceNeg,Int.reduceLE,Int.reduceLT,Int.reduceEq,Int.reduceToNat]) <;> repeat ((with_reducible refine Req.intro ?_ ?_); (first | omega | (simp <;> omega)); try simp only [d1, ex,reduceIte,reduceCtorEq,Nat.reduceEqDiff,Nat.reduceLT,Nat.reduceLeDiff,Nat.reduceAdd,Nat.reduceSub,Nat.reduceMul,Int.reduceAdd,Int.reduceSub,Int.reduceMul,Int.reduceNeg,Int.reduceLE,Int.reduceLT,Int.reduceEq,Int.reduceToNat])
      refine CallA.eq rfl lives_spec rfl ?_
      (try simp only [ex,reduceIte,reduceCtorEq,Nat.reduceEqDiff,Nat.reduceLT,Nat.reduceLeDiff,Nat.reduceAdd,Nat.reduceSub,Nat.reduceMul,Int.reduceAdd,Int.reduceSub,Int.reduceMul,Int.reduceNeg,Int.reduceLE,Int.reduceLT,Int.reduceEq,Int.reduceToNat]) <;> repeat ((with_reducible refine Req.intro ?_ ?_); (first | omega | (simp <;> omega)); try simp only [ex,reduceIte,reduceCtorEq,Nat.reduceEqDiff,Nat.reduceLT,Nat.reduceLeDiff,Nat.reduceAdd,Nat.reduceSub,Nat.reduceMul,Int.reduceAdd,Int.reduceSub,Int.reduceMul,Int.reduceNeg,Int.reduceLE,Int.reduceLT,Int.reduceEq,Int.reduceToNat])
      refine CallA.eq rfl (clean1_spec _ rs hok.1) rfl ?_
      (try simp only [ex,reduceIte,reduceCtorEq,Nat.reduceEqDiff,Nat.reduceLT,Nat.reduceLeDiff,Nat.reduceAdd,Nat.reduceSub,Nat.reduceMul,Int.reduceAdd,Int.reduceSub,Int.reduceMul,Int.reduceNeg,Int.reduceLE,Int.reduceLT,Int.reduceEq,Int.reduceToNat]) <;> repeat ((with_reducible refine Req.intro ?_ ?_); (first | omega | (simp <;> omega)); try simp only [ex,reduceIte,reduceCtorEq,Nat.reduceEqDiff,Nat.reduceLT,Nat.reduceLeDiff,Nat.reduceAdd,Nat.reduceSub,Nat.reduceMul,Int.reduceAdd,Int.reduceSub,Int.reduceMul,Int.reduceNeg,Int.reduceLE,Int.reduceLT,Int.reduceEq,Int.reduceToNat])
      refine CallA.eq rfl (clean2_spec _ rs hok.1) rfl ?_
      have d2 : decide (isCl rs = isCl rs) = true := decide_eq_true rfl
      (try simp only [d2, ex,reduceIte,reduceCtorEq,Nat.reduceEqDiff,Nat.reduceLT,Nat.reduceLeDiff,Nat.reduceAdd,Nat.reduceSub,Nat.reduceMul,Int.reduceAdd,Int.reduceSub,Int.reduceMul,Int.reduceNeg,Int.reduceLE,Int.reduceLT,Int.reduceEq,Int.reduceToNat]) <;> repeat ((with_reducible refine Req.intro ?_ ?_); (first | omega | (simp <;> omega)); try simp only [d2, ex,reduceIte,reduceCtorEq,Nat.reduceEqDiff,Nat.reduceLT,Nat.reduceLeDiff,Nat.reduceAdd,Nat.reduceSub,Nat.reduceMul,Int.reduceAdd,Int.reduceSub,Int.reduceMul,Int.reduceNeg,Int.reduceLE,Int.reduceLT,Int.reduceEq,Int.reduceToNat])
      refine CallA.eq rfl (lines1_spec _ rs s hok) rfl ?_
      (try simp only [ex,reduceIte,reduceCtorEq,Nat.reduceEqDiff,Nat.reduceLT,Nat.reduceLeDiff,Nat.reduceAdd,Nat.reduceSub,Nat.reduceMul,Int.reduceAdd,Int.reduceSub,Int.reduceMul,Int.reduceNeg,Int.reduceLE,Int.reduceLT,Int.reduceEq,Int.reduceToNat]) <;> repeat ((with_reducible refine Req.intro ?_ ?_); (first | omega | (simp <;> omega)); try simp only [ex,reduceIte,reduceCtorEq,Nat.reduceEqDiff,Nat.reduceLT,Nat.reduceLeDiff,Nat.reduceAdd,Nat.reduceSub,Nat.reduceMul,Int.reduceAdd,Int.reduceSub,Int.reduceMul,Int.reduceNeg,Int.reduceLE,Int.reduceLT,Int.reduceEq,Int.reduceToNat])
      refine CallA.eq rfl (lines2_spec _ rs s hok) rfl ?_
      (try simp only [ex,reduceIte,reduceCtorEq,Nat.reduceEqDiff,Nat.reduceLT,Nat.reduceLeDiff,Nat.reduceAdd,Nat.reduceSub,Nat.reduceMul,Int.reduceAdd,Int.reduceSub,Int.reduceMul,Int.reduceNeg,Int.reduceLE,Int.reduceLT,Int.reduceEq,Int.reduceToNat]) <;> repeat ((with_reducible refine Req.intro ?_ ?_); (first | omega | (simp <;> omega)); try simp only [ex,reduceIte,reduceCtorEq,Nat.reduceEqDiff,Nat.reduceLT,Nat.reduceLeDiff,Nat.reduceAdd,Nat.reduceSub,Nat.reduceMul,Int.reduceAdd,Int.reduceSub,Int.reduceMul,Int.reduceNeg,Int.reduceLE,Int.reduceLT,Int.reduceEq,Int.reduceToNat])
      refine CallA.eq rfl (same6_self _ _ (linesR s rs) hll) rfl ?_
      (try simp only [ex,reduceIte,reduceCtorEq,Nat.reduceEqDiff,Nat.reduceLT,Nat.reduceLeDiff,Nat.reduceAdd,Nat.reduceSub,Nat.reduceMul,Int.reduceAdd,Int.reduceSub,Int.reduceMul,Int.reduceNeg,Int.reduceLE,Int.reduceLT,Int.reduceEq,Int.reduceToNat]) <;> repeat ((with_reducible refine Req.intro ?_ ?_); (first | omega | (simp <;> omega)); try simp only [ex,reduceIte,reduceCtorEq,Nat.reduceEqDiff,Nat.reduceLT,Nat.reduceLeDiff,Nat.reduceAdd,Nat.reduceSub,Nat.reduceMul,Int.reduceAdd,Int.reduceSub,Int.reduceMul,Int.reduceNeg,Int.reduceLE,Int.reduceLT,Int.reduceEq,Int.reduceToNat])
      refine CallA.eq rfl (mark1_spec _ rs o t st hln (by omega) (by omega)) rfl ?_
      (try simp only [ex,reduceIte,reduceCtorEq,Nat.reduceEqDiff,Nat.reduceLT,Nat.reduceLeDiff,Nat.reduceAdd,Nat.reduceSub,Nat.reduceMul,Int.reduceAdd,Int.reduceSub,Int.reduceMul,Int.reduceNeg,Int.reduceLE,Int.reduceLT,Int.reduceEq,Int.reduceToNat]) <;> repeat ((with_reducible refine Req.intro ?_ ?_); (first | omega | (simp <;> omega)); try simp only [ex,reduceIte,reduceCtorEq,Nat.reduceEqDiff,Nat.reduceLT,Nat.reduceLeDiff,Nat.reduceAdd,Nat.reduceSub,Nat.reduceMul,Int.reduceAdd,Int.reduceSub,Int.reduceMul,Int.reduceNeg,Int.reduceLE,Int.reduceLT,Int.reduceEq,Int.reduceToNat])
      refine CallA.eq rfl (mark2_spec _ rs o t st hln (by omega) (by omega)) rfl ?_
      have d3 : decide (markR o t st rs = markR o t st rs) = true := decide_eq_true rfl
      (try simp only [d3, ex,reduceIte,reduceCtorEq,Nat.reduceEqDiff,Nat.reduceLT,Nat.reduceLeDiff,Nat.reduceAdd,Nat.reduceSub,Nat.reduceMul,Int.reduceAdd,Int.reduceSub,Int.reduceMul,Int.reduceNeg,Int.reduceLE,Int.reduceLT,Int.reduceEq,Int.reduceToNat]) <;> repeat ((with_reducible refine Req.intro ?_ ?_); (first | omega | (simp <;> omega)); try simp only [d3, ex,reduceIte,reduceCtorEq,Nat.reduceEqDiff,Nat.reduceLT,Nat.reduceLeDiff,Nat.reduceAdd,Nat.reduceSub,Nat.reduceMul,Int.reduceAdd,Int.reduceSub,Int.reduceMul,Int.reduceNeg,Int.reduceLE,Int.reduceLT,Int.reduceEq,Int.reduceToNat])
end Go.Proofs.Ytnodepfoahmcmaa.E.Hs
