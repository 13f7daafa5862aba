/- What the functions compute, and the law ThreeReads in plain lists: part 1. Conditions: none. -/
import Derived.KernelRfl
import Derived.Test.YtnodepfoahmcmaaFThreeReads
/- Runs that two lists have in common: what the anchor is. Plain lists. Conditions: none. -/
namespace Go.Proofs.Ytnodepfoahmcmaa.E.Hs
set_option linter.unusedVariables false

abbrev S := List UInt8
/-- How long two lists are the same at their beginning. -/
def lcp : List S → List S → Nat
  | x :: a, y :: b => if x = y then lcp a b + 1 else 0
  | _, _ => 0
theorem lcp_le : ∀ a b : List S, lcp a b ≤ a.length ∧ lcp a b ≤ b.length
  | [], _ => by simp [lcp]
  | _ :: _, [] => by simp [lcp]
  | x :: a, y :: b => by
    have := lcp_le a b
    simp only [lcp, List.length_cons]
    split <;> omega
theorem lcp_lt : ∀ (a b : List S) (n : Nat), n < lcp a b → ∃ s, a[n]? = some s ∧ b[n]? = some s
  | [], _, n, h => by simp [lcp] at h
  | _ :: _, [], n, h => by simp [lcp] at h
  | x :: a, y :: b, n, h => by
    simp only [lcp] at h
    split at h
    · rename_i e
      subst e
      cases n with
      | zero => exact ⟨x, rfl, rfl⟩
      | succ n => simpa using lcp_lt a b n (by omega)
    · omega
theorem lcp_end : ∀ (a b : List S) (s t : S), a[lcp a b]? = some s → b[lcp a b]? = some t → s ≠ t
  | [], _, s, t, h, _ => by simp at h
  | _ :: _, [], s, t, _, h => by simp at h
  | x :: a, y :: b, s, t, h1, h2 => by
    simp only [lcp] at h1 h2
    split at h1
    · rename_i e
      rw [if_pos e] at h2
      exact lcp_end a b s t (by simpa using h1) (by simpa using h2)
    · rename_i e
      rw [if_neg e] at h2
      simp at h1 h2
      subst h1; subst h2
      exact e
/-- So long as the lists go on alike, and no longer. -/
theorem lcp_is (a b : List S) (n : Nat) (h1 : ∀ m, m < n → ∃ s, a[m]? = some s ∧ b[m]? = some s) (h2 : ∀ s, a[n]? = some s → b[n]? = some s → False) : lcp a b = n := by
  rcases Nat.lt_trichotomy (lcp a b) n with h | h | h
  · obtain ⟨s, e1, e2⟩ := h1 _ h
    exact absurd rfl (lcp_end a b s s e1 e2)
  · exact h
  · obtain ⟨s, e1, e2⟩ := lcp_lt a b n h
    exact (h2 s e1 e2).elim

structure Rn where
  A : Nat
  B : Nat
  N : Nat deriving DecidableEq
/-- Back to where a run begins. -/
def back (a b : List S) : Nat → Nat → Nat × Nat
  | i + 1, k + 1 => if a[i]? = b[k]? then back a b i k else (i + 1, k + 1)
  | i, k => (i, k)
def runOf (a b : List S) (i k : Nat) : Rn := ⟨(back a b i k).1, (back a b i k).2, lcp (a.drop (back a b i k).1) (b.drop (back a b i k).2)⟩
/-- How often the rarest line of a run stands in the list. -/
def rare (m : Nat) (a : List S) (r : Rn) : Nat := ((a.drop r.A).take r.N).foldl (fun m s => min m (a.count s)) m
/-- The rarer run; the longer; the one further ahead. -/
def bet (m : Nat) (a : List S) (x y : Rn) : Bool :=
  if rare m a x ≠ rare m a y then decide (rare m a x < rare m a y) else if x.N ≠ y.N then decide (y.N < x.N) else if x.A ≠ y.A then decide (x.A < y.A) else decide (x.B < y.B)

theorem back_le (a b : List S) : ∀ i k, (back a b i k).1 ≤ i ∧ (back a b i k).2 ≤ k ∧ (back a b i k).1 + k = (back a b i k).2 + i
  | 0, k => by simp [back]
  | i + 1, 0 => by simp [back]
  | i + 1, k + 1 => by
    have := back_le a b i k
    simp only [back]
    split
    · omega
    · simp; omega

/-- A place where a run begins. -/
def Start (a b : List S) (i k : Nat) : Prop := (∃ s, a[i]? = some s ∧ b[k]? = some s) ∧ ¬ (0 < i ∧ 0 < k ∧ a[i - 1]? = b[k - 1]?)
/-- The runs that may be the anchor. -/
def Cand (a b : List S) (r : Rn) : Prop := Start a b r.A r.B ∧ r.N = lcp (a.drop r.A) (b.drop r.B) ∧ rare 65 a r ≤ 64

theorem back_start (a b : List S) : ∀ i k, (∃ s, a[i]? = some s ∧ b[k]? = some s) → Start a b (back a b i k).1 (back a b i k).2
  | 0, k, h => by simp only [back]; exact ⟨h, by simp⟩
  | i + 1, 0, h => by simp only [back]; exact ⟨h, by simp⟩
  | i + 1, k + 1, h => by
    simp only [back]
    split
    · rename_i e
      refine back_start a b i k ?_
      obtain ⟨s, h1, h2⟩ := h
      have : i < a.length := by have := (List.getElem?_eq_some_iff.1 h1).1; omega
      exact ⟨a[i], List.getElem?_eq_getElem this, by rw [← e]; exact List.getElem?_eq_getElem this⟩
    · rename_i e
      exact ⟨h, by simpa using e⟩
theorem back_of_start (a b : List S) (i k : Nat) (h : Start a b i k) : back a b i k = (i, k) := by
  match i, k with
  | 0, k => rfl
  | i + 1, 0 => rfl
  | i + 1, k + 1 =>
    simp only [back]
    rw [if_neg]
    exact fun e => h.2 ⟨by omega, by omega, by simpa using e⟩

theorem lcp_pos {a b : List S} {i k : Nat} (h : ∃ s, a[i]? = some s ∧ b[k]? = some s) : 0 < lcp (a.drop i) (b.drop k) := by
  obtain ⟨s, h1, h2⟩ := h
  obtain ⟨l1, e1⟩ := List.getElem?_eq_some_iff.1 h1
  obtain ⟨l2, e2⟩ := List.getElem?_eq_some_iff.1 h2
  rw [List.drop_eq_getElem_cons l1, List.drop_eq_getElem_cons l2, e1, e2]
  simp [lcp]

theorem fold_min_le (f : S → Nat) : ∀ (l : List S) (m : Nat), l.foldl (fun m s => min m (f s)) m ≤ m ∧ ∀ s ∈ l, l.foldl (fun m s => min m (f s)) m ≤ f s
  | [], m => by simp
  | x :: l, m => by
    obtain ⟨h1, h2⟩ := fold_min_le f l (min m (f x))
    simp only [List.foldl_cons]
    refine ⟨by omega, fun s hs => ?_⟩
    rcases List.mem_cons.1 hs with rfl | hs
    · omega
    · exact h2 s hs
theorem fold_min_is (f : S → Nat) : ∀ (l : List S) (m : Nat), l.foldl (fun m s => min m (f s)) m = m ∨ ∃ s ∈ l, l.foldl (fun m s => min m (f s)) m = f s
  | [], m => by simp
  | x :: l, m => by
    simp only [List.foldl_cons]
    rcases fold_min_is f l (min m (f x)) with h | ⟨s, hs, h⟩
    · rw [h]
      by_cases c : m ≤ f x
      · left; omega
      · right; exact ⟨x, by simp, by omega⟩
    · right; exact ⟨s, by simp [hs], h⟩
/-- The reference's start does not matter. -/
theorem rare_len (a : List S) (r : Rn) (h0 : 0 < r.N) (h1 : r.A + r.N ≤ a.length) : rare 65 a r = min 65 (rare a.length a r) := by
  unfold rare
  have hl : 0 < ((a.drop r.A).take r.N).length := by simp; omega
  obtain ⟨x, l, hx⟩ : ∃ x l, (a.drop r.A).take r.N = x :: l := by
    cases h : (a.drop r.A).take r.N with
    | nil => rw [h] at hl; simp at hl
    | cons x l => exact ⟨x, l, rfl⟩
  rw [hx]
  have g1 := fold_min_le a.count (x :: l) 65
  have g2 := fold_min_is a.count (x :: l) 65
  have g3 := fold_min_le a.count (x :: l) a.length
  have g4 := fold_min_is a.count (x :: l) a.length
  have hc : ∀ s, a.count s ≤ a.length := fun s => List.count_le_length
  have key : (∀ s ∈ x :: l, (x :: l).foldl (fun m s => min m (a.count s)) a.length ≤ a.count s) ∧ ∃ s ∈ x :: l, (x :: l).foldl (fun m s => min m (a.count s)) a.length = a.count s := by
    refine ⟨g3.2, ?_⟩
    rcases g4 with h | h
    · exact ⟨x, by simp, by have := g3.2 x (by simp); have := hc x; omega⟩
    · exact h
  obtain ⟨k1, s, hs, k2⟩ := key
  generalize (x :: l).foldl (fun m s => min m (a.count s)) a.length = L at *
  generalize (x :: l).foldl (fun m s => min m (a.count s)) 65 = M at *
  have := g1.2 s hs
  rcases g2 with h | ⟨t, ht, h⟩
  · omega
  · have := k1 t ht; omega

/-- The first among the best: one that no other beats. -/
def IsAnchor (a b : List S) (o : Option Rn) : Prop := match o with
  | some r => Cand a b r ∧ ∀ y, Cand a b y → y = r ∨ bet 65 a r y = true
  | none => ∀ y, ¬ Cand a b y
theorem bet_asymm (m : Nat) (a : List S) (x y : Rn) (h1 : bet m a x y = true) (h2 : bet m a y x = true) : False := by
  unfold bet at h1 h2
  generalize rare m a x = p at *
  generalize rare m a y = q at *
  simp only [ne_eq, ite_not] at h1 h2
  by_cases e1 : p = q
  · subst e1
    simp only [if_true] at h1 h2
    by_cases e2 : x.N = y.N
    · rw [if_pos e2] at h1; rw [if_pos e2.symm] at h2
      by_cases e3 : x.A = y.A
      · rw [if_pos e3] at h1; rw [if_pos e3.symm] at h2
        simp at h1 h2; omega
      · rw [if_neg e3] at h1; rw [if_neg fun e => e3 e.symm] at h2
        simp at h1 h2; omega
    · rw [if_neg e2] at h1; rw [if_neg fun e => e2 e.symm] at h2
      simp at h1 h2; omega
  · rw [if_neg e1] at h1; rw [if_neg fun e => e1 e.symm] at h2
    simp at h1 h2; omega
theorem IsAnchor.uniq {a b : List S} {o o' : Option Rn} (h : IsAnchor a b o) (h' : IsAnchor a b o') : o = o' := by
  cases o with
  | none =>
    cases o' with
    | none => rfl
    | some r => exact (h r h'.1).elim
  | some r =>
    cases o' with
    | none => exact (h' r h.1).elim
    | some r' =>
      rcases h.2 r' h'.1 with e | e
      · rw [e]
      · rcases h'.2 r h.1 with e' | e'
        · rw [e']
        · exact (bet_asymm 65 a r r' e e').elim

end Go.Proofs.Ytnodepfoahmcmaa.E.Hs

/- Small functions of chapter 12: what they compute. Conditions: none. -/
namespace Go.Proofs.Ytnodepfoahmcmaa.E.Hs
set_option linter.unusedVariables false
set_option linter.unusedSimpArgs false
set_option maxHeartbeats 20000000

/-- What several cases come to is proved once. -/
structure Hold (P : Prop) : Prop where
  out : P
theorem shareL {P Q : Prop} (h : Hold P → Q) (k : P) : Q := h ⟨k⟩
def small (a : List S) : Bool := decide (a.length ≤ 60) && a.all fun s => decide (s.length ≤ 200)

theorem small_spec (o : Bool) (a : List S) (hl : a.length ≤ 17592186044416) : Run tab 8 0 [.sl o 1 (a.map .str)] [] 0 (fun r _ _ => r = .bool (small a)) := by
  refine enter (F := f8) rfl rfl ?_
  simp only [f8, ex,reduceIte,reduceCtorEq,Nat.reduceEqDiff,Nat.reduceLT,Nat.reduceLeDiff,Nat.reduceAdd,Nat.reduceSub,Nat.reduceMul,Int.reduceAdd,Int.reduceSub,Int.reduceMul,Int.reduceNeg,Int.reduceLE,Int.reduceLT,Int.reduceEq,Int.reduceToNat]
  refine ifB.intro (fun h => ?_) (fun h => ?_)
  · (try simp only [ex,reduceIte,reduceCtorEq,Nat.reduceEqDiff,Nat.reduceLT,Nat.reduceLeDiff,Nat.reduceAdd,Nat.reduceSub,Nat.reduceMul,Int.reduceAdd,Int.reduceSub,Int.reduceMul,Int.reduceNeg,Int.reduceLE,Int.reduceLT,Int.reduceEq,Int.reduceToNat]) <;> repeat ((with_reducible refine Req.intro ?_ ?_); (first | omega | (simp <;> omega)); try simp only [ex,reduceIte,reduceCtorEq,Nat.reduceEqDiff,Nat.reduceLT,Nat.reduceLeDiff,Nat.reduceAdd,Nat.reduceSub,Nat.reduceMul,Int.reduceAdd,Int.reduceSub,Int.reduceMul,Int.reduceNeg,Int.reduceLE,Int.reduceLT,Int.reduceEq,Int.reduceToNat])
    simp at h
    simp [small]; omega
  · simp at h
    (try simp only [ex,reduceIte,reduceCtorEq,Nat.reduceEqDiff,Nat.reduceLT,Nat.reduceLeDiff,Nat.reduceAdd,Nat.reduceSub,Nat.reduceMul,Int.reduceAdd,Int.reduceSub,Int.reduceMul,Int.reduceNeg,Int.reduceLE,Int.reduceLT,Int.reduceEq,Int.reduceToNat]) <;> repeat ((with_reducible refine Req.intro ?_ ?_); (first | omega | (simp <;> omega)); try simp only [ex,reduceIte,reduceCtorEq,Nat.reduceEqDiff,Nat.reduceLT,Nat.reduceLeDiff,Nat.reduceAdd,Nat.reduceSub,Nat.reduceMul,Int.reduceAdd,Int.reduceSub,Int.reduceMul,Int.reduceNeg,Int.reduceLE,Int.reduceLT,Int.reduceEq,Int.reduceToNat])
    refine loopI fun L hL => ?_
    simp only [ex,reduceIte,reduceCtorEq,Nat.reduceEqDiff,Nat.reduceLT,Nat.reduceLeDiff,Nat.reduceAdd,Nat.reduceSub,Nat.reduceMul,Int.reduceAdd,Int.reduceSub,Int.reduceMul,Int.reduceNeg,Int.reduceLE,Int.reduceLT,Int.reduceEq,Int.reduceToNat]
    have key : ∀ m i : Nat, i + m = a.length → (a.take i).all (fun s => decide (s.length ≤ 200)) = true → L (L8_1 (.sl o 1 (a.map .str)) (.int .i64 i) [] 0) := by
      intro m
      induction m with
      | zero =>
        intro i hi ha
        apply hL
        simp only [L8_1, l8_1, ex,reduceIte,reduceCtorEq,Nat.reduceEqDiff,Nat.reduceLT,Nat.reduceLeDiff,Nat.reduceAdd,Nat.reduceSub,Nat.reduceMul,Int.reduceAdd,Int.reduceSub,Int.reduceMul,Int.reduceNeg,Int.reduceLE,Int.reduceLT,Int.reduceEq,Int.reduceToNat]
        refine ifB.no (by simp; omega) ?_
        (try simp only [ex,reduceIte,reduceCtorEq,Nat.reduceEqDiff,Nat.reduceLT,Nat.reduceLeDiff,Nat.reduceAdd,Nat.reduceSub,Nat.reduceMul,Int.reduceAdd,Int.reduceSub,Int.reduceMul,Int.reduceNeg,Int.reduceLE,Int.reduceLT,Int.reduceEq,Int.reduceToNat]) <;> repeat ((with_reducible refine Req.intro ?_ ?_); (first | omega | (simp <;> omega)); try simp only [ex,reduceIte,reduceCtorEq,Nat.reduceEqDiff,Nat.reduceLT,Nat.reduceLeDiff,Nat.reduceAdd,Nat.reduceSub,Nat.reduceMul,Int.reduceAdd,Int.reduceSub,Int.reduceMul,Int.reduceNeg,Int.reduceLE,Int.reduceLT,Int.reduceEq,Int.reduceToNat])
        rw [List.take_of_length_le (by omega)] at ha
        simp [small, ha]; omega
      | succ m ih =>
        intro i hi ha
        apply hL
        simp only [L8_1, l8_1, ex,reduceIte,reduceCtorEq,Nat.reduceEqDiff,Nat.reduceLT,Nat.reduceLeDiff,Nat.reduceAdd,Nat.reduceSub,Nat.reduceMul,Int.reduceAdd,Int.reduceSub,Int.reduceMul,Int.reduceNeg,Int.reduceLE,Int.reduceLT,Int.reduceEq,Int.reduceToNat]
        refine ifB.yes (by simp; omega) ?_
        (try simp only [ex,reduceIte,reduceCtorEq,Nat.reduceEqDiff,Nat.reduceLT,Nat.reduceLeDiff,Nat.reduceAdd,Nat.reduceSub,Nat.reduceMul,Int.reduceAdd,Int.reduceSub,Int.reduceMul,Int.reduceNeg,Int.reduceLE,Int.reduceLT,Int.reduceEq,Int.reduceToNat]) <;> repeat ((with_reducible refine Req.intro ?_ ?_); (first | omega | (simp <;> omega)); try simp only [ex,reduceIte,reduceCtorEq,Nat.reduceEqDiff,Nat.reduceLT,Nat.reduceLeDiff,Nat.reduceAdd,Nat.reduceSub,Nat.reduceMul,Int.reduceAdd,Int.reduceSub,Int.reduceMul,Int.reduceNeg,Int.reduceLE,Int.reduceLT,Int.reduceEq,Int.reduceToNat])
        refine WK.idx (by omega) fun x hx => ?_
        (try simp only [ex,reduceIte,reduceCtorEq,Nat.reduceEqDiff,Nat.reduceLT,Nat.reduceLeDiff,Nat.reduceAdd,Nat.reduceSub,Nat.reduceMul,Int.reduceAdd,Int.reduceSub,Int.reduceMul,Int.reduceNeg,Int.reduceLE,Int.reduceLT,Int.reduceEq,Int.reduceToNat]) <;> repeat ((with_reducible refine Req.intro ?_ ?_); (first | omega | (simp <;> omega)); try simp only [ex,reduceIte,reduceCtorEq,Nat.reduceEqDiff,Nat.reduceLT,Nat.reduceLeDiff,Nat.reduceAdd,Nat.reduceSub,Nat.reduceMul,Int.reduceAdd,Int.reduceSub,Int.reduceMul,Int.reduceNeg,Int.reduceLE,Int.reduceLT,Int.reduceEq,Int.reduceToNat])
        refine ifB.intro (fun h => ?_) (fun h => ?_)
        · (try simp only [ex,reduceIte,reduceCtorEq,Nat.reduceEqDiff,Nat.reduceLT,Nat.reduceLeDiff,Nat.reduceAdd,Nat.reduceSub,Nat.reduceMul,Int.reduceAdd,Int.reduceSub,Int.reduceMul,Int.reduceNeg,Int.reduceLE,Int.reduceLT,Int.reduceEq,Int.reduceToNat]) <;> repeat ((with_reducible refine Req.intro ?_ ?_); (first | omega | (simp <;> omega)); try simp only [ex,reduceIte,reduceCtorEq,Nat.reduceEqDiff,Nat.reduceLT,Nat.reduceLeDiff,Nat.reduceAdd,Nat.reduceSub,Nat.reduceMul,Int.reduceAdd,Int.reduceSub,Int.reduceMul,Int.reduceNeg,Int.reduceLE,Int.reduceLT,Int.reduceEq,Int.reduceToNat])
          have hm : x ∈ a := List.mem_of_getElem? hx
          have : a.all (fun s => decide (s.length ≤ 200)) = false := by
            rw [List.all_eq_false]
            exact ⟨x, hm, by simp at h ⊢; omega⟩
          simp [small, this]
        · (try simp only [ex,reduceIte,reduceCtorEq,Nat.reduceEqDiff,Nat.reduceLT,Nat.reduceLeDiff,Nat.reduceAdd,Nat.reduceSub,Nat.reduceMul,Int.reduceAdd,Int.reduceSub,Int.reduceMul,Int.reduceNeg,Int.reduceLE,Int.reduceLT,Int.reduceEq,Int.reduceToNat]) <;> repeat ((with_reducible refine Req.intro ?_ ?_); (first | omega | (simp <;> omega)); try simp only [ex,reduceIte,reduceCtorEq,Nat.reduceEqDiff,Nat.reduceLT,Nat.reduceLeDiff,Nat.reduceAdd,Nat.reduceSub,Nat.reduceMul,Int.reduceAdd,Int.reduceSub,Int.reduceMul,Int.reduceNeg,Int.reduceLE,Int.reduceLT,Int.reduceEq,Int.reduceToNat])
          have := ih (i + 1) (by omega) (by
            rw [List.take_add_one, hx]
            simp at h
            simp [ha]; omega)
          simpa [L8_1] using this
    exact key a.length 0 (by omega) (by simp)
end Go.Proofs.Ytnodepfoahmcmaa.E.Hs

/- Lines of a text: lines.Split and graftageref05.Split. Conditions: none. -/
namespace Go.Proofs.Ytnodepfoahmcmaa.E.Hs
set_option linter.unusedVariables false
set_option linter.unusedSimpArgs false
set_option maxHeartbeats 20000000
set_option maxRecDepth 100000

abbrev Sx := List UInt8
/-- The lines, the bytes 'cur' ahead. -/
def lnG (cur : Sx) : Sx → List Sx
  | [] => if cur = [] then [] else [cur]
  | c :: s => if c = 10 then (cur ++ [c]) :: lnG [] s else lnG (cur ++ [c]) s
def lns (s : Sx) : List Sx := lnG [] s
theorem lnG_none : ∀ (s cur : Sx), Lib.indexByte s 10 = -1 → lnG cur s = if cur ++ s = [] then [] else [cur ++ s]
  | [], cur, h => by simp [lnG]
  | c :: s, cur, h => by
    unfold Lib.indexByte at h
    rw [lnG]
    by_cases e : c = 10
    · subst e; simp at h
    · rw [if_neg e, lnG_none s (cur ++ [c])]
      · simp
      · rw [if_neg (by simpa using e)] at h
        by_cases k : Lib.indexByte s 10 = -1
        · exact k
        · rw [if_neg (by simpa using k)] at h
          have := Lib.indexByte_ge s 10
          omega
theorem lnG_some : ∀ (s cur : Sx) (k : Nat), Lib.indexByte s 10 = (k : Int) → k < s.length ∧ lnG cur s = (cur ++ s.take (k + 1)) :: lns (s.drop (k + 1))
  | [], cur, k, h => by unfold Lib.indexByte at h; omega
  | c :: s, cur, k, h => by
    unfold Lib.indexByte at h
    rw [lnG]
    by_cases e : c = 10
    · subst e
      simp at h
      have : k = 0 := by omega
      subst this
      simp [lns]
    · rw [if_neg (by simpa using e)] at h
      by_cases q : Lib.indexByte s 10 = -1
      · rw [if_pos (by simpa using q)] at h; omega
      · rw [if_neg (by simpa using q)] at h
        have := Lib.indexByte_ge s 10
        have ih := lnG_some s (cur ++ [c]) (k - 1) (by omega)
        have hk : 0 < k := by omega
        rw [if_neg e, ih.2]
        refine ⟨by simp; omega, ?_⟩
        rw [show k = k - 1 + 1 by omega]
        simp
theorem lnG_len : ∀ (s cur : Sx), (lnG cur s).length ≤ s.length + 1
  | [], cur => by unfold lnG; split <;> simp
  | c :: s, cur => by
    unfold lnG
    split
    · have := lnG_len s []; simp; omega
    · have := lnG_len s (cur ++ [c]); simp; omega

theorem index_spec (s : Sx) : Run tab 56 0 [.str s, .str [10]] [] 0 (fun r _ _ => r = .int .i64 (Lib.indexByte s 10)) :=
  (run_ext (q := (.int .i64 (Lib.indexByte s 10), [], 0)) rfl).weaken fun _ _ _ h => h.1
theorem split_spec (s : Sx) (hs : s.length ≤ 1000000) : Run tab 41 0 [.str s] [] 0 (fun r _ _ => r = .sl true 1 ((lns s).map .str)) := by
  refine enter (F := f41) rfl rfl ?_
  simp only [f41, ex,reduceIte,reduceCtorEq,Nat.reduceEqDiff,Nat.reduceLT,Nat.reduceLeDiff,Nat.reduceAdd,Nat.reduceSub,Nat.reduceMul,Int.reduceAdd,Int.reduceSub,Int.reduceMul,Int.reduceNeg,Int.reduceLE,Int.reduceLT,Int.reduceEq,Int.reduceToNat]
  (try simp only [ex,reduceIte,reduceCtorEq,Nat.reduceEqDiff,Nat.reduceLT,Nat.reduceLeDiff,Nat.reduceAdd,Nat.reduceSub,Nat.reduceMul,Int.reduceAdd,Int.reduceSub,Int.reduceMul,Int.reduceNeg,Int.reduceLE,Int.reduceLT,Int.reduceEq,Int.reduceToNat]) <;> repeat ((with_reducible refine Req.intro ?_ ?_); (first | omega | (simp <;> omega)); try simp only [ex,reduceIte,reduceCtorEq,Nat.reduceEqDiff,Nat.reduceLT,Nat.reduceLeDiff,Nat.reduceAdd,Nat.reduceSub,Nat.reduceMul,Int.reduceAdd,Int.reduceSub,Int.reduceMul,Int.reduceNeg,Int.reduceLE,Int.reduceLT,Int.reduceEq,Int.reduceToNat])
  refine loopI fun L hL => ?_
  (try simp only [ex,reduceIte,reduceCtorEq,Nat.reduceEqDiff,Nat.reduceLT,Nat.reduceLeDiff,Nat.reduceAdd,Nat.reduceSub,Nat.reduceMul,Int.reduceAdd,Int.reduceSub,Int.reduceMul,Int.reduceNeg,Int.reduceLE,Int.reduceLT,Int.reduceEq,Int.reduceToNat]) <;> repeat ((with_reducible refine Req.intro ?_ ?_); (first | omega | (simp <;> omega)); try simp only [ex,reduceIte,reduceCtorEq,Nat.reduceEqDiff,Nat.reduceLT,Nat.reduceLeDiff,Nat.reduceAdd,Nat.reduceSub,Nat.reduceMul,Int.reduceAdd,Int.reduceSub,Int.reduceMul,Int.reduceNeg,Int.reduceLE,Int.reduceLT,Int.reduceEq,Int.reduceToNat])
  have key : ∀ (m : Nat) (t : Sx) (out : List Sx), t.length ≤ m → out.length + t.length ≤ s.length → out ++ lns t = lns s → L (L41_1 (.str t) (.sl true 1 (out.map .str)) [] 0) := by
    intro m
    induction m with
    | zero =>
      intro t out ht ho he
      have ht0 : t = [] := List.eq_nil_of_length_eq_zero (by omega)
      subst ht0
      have he : out = lns s := by rw [← he]; simp [lns, lnG]
      apply hL
      simp only [L41_1, l41_1, ex,reduceIte,reduceCtorEq,Nat.reduceEqDiff,Nat.reduceLT,Nat.reduceLeDiff,Nat.reduceAdd,Nat.reduceSub,Nat.reduceMul,Int.reduceAdd,Int.reduceSub,Int.reduceMul,Int.reduceNeg,Int.reduceLE,Int.reduceLT,Int.reduceEq,Int.reduceToNat]
      (try simp only [ex,reduceIte,reduceCtorEq,Nat.reduceEqDiff,Nat.reduceLT,Nat.reduceLeDiff,Nat.reduceAdd,Nat.reduceSub,Nat.reduceMul,Int.reduceAdd,Int.reduceSub,Int.reduceMul,Int.reduceNeg,Int.reduceLE,Int.reduceLT,Int.reduceEq,Int.reduceToNat]) <;> repeat ((with_reducible refine Req.intro ?_ ?_); (first | omega | (simp <;> omega)); try simp only [ex,reduceIte,reduceCtorEq,Nat.reduceEqDiff,Nat.reduceLT,Nat.reduceLeDiff,Nat.reduceAdd,Nat.reduceSub,Nat.reduceMul,Int.reduceAdd,Int.reduceSub,Int.reduceMul,Int.reduceNeg,Int.reduceLE,Int.reduceLT,Int.reduceEq,Int.reduceToNat])
      rw [he]
    | succ m ih =>
      intro t out ht ho he
      rcases Classical.em (t = []) with e | e
      · subst e
        have he : out = lns s := by rw [← he]; simp [lns, lnG]
        apply hL
        simp only [L41_1, l41_1, ex,reduceIte,reduceCtorEq,Nat.reduceEqDiff,Nat.reduceLT,Nat.reduceLeDiff,Nat.reduceAdd,Nat.reduceSub,Nat.reduceMul,Int.reduceAdd,Int.reduceSub,Int.reduceMul,Int.reduceNeg,Int.reduceLE,Int.reduceLT,Int.reduceEq,Int.reduceToNat]
        (try simp only [ex,reduceIte,reduceCtorEq,Nat.reduceEqDiff,Nat.reduceLT,Nat.reduceLeDiff,Nat.reduceAdd,Nat.reduceSub,Nat.reduceMul,Int.reduceAdd,Int.reduceSub,Int.reduceMul,Int.reduceNeg,Int.reduceLE,Int.reduceLT,Int.reduceEq,Int.reduceToNat]) <;> repeat ((with_reducible refine Req.intro ?_ ?_); (first | omega | (simp <;> omega)); try simp only [ex,reduceIte,reduceCtorEq,Nat.reduceEqDiff,Nat.reduceLT,Nat.reduceLeDiff,Nat.reduceAdd,Nat.reduceSub,Nat.reduceMul,Int.reduceAdd,Int.reduceSub,Int.reduceMul,Int.reduceNeg,Int.reduceLE,Int.reduceLT,Int.reduceEq,Int.reduceToNat])
        rw [he]
      · have hl : 0 < t.length := List.length_pos_iff.2 e
        have h1 : decide (t ≠ []) = true := by simpa using e
        have h2 : decide (t = []) = false := by simpa using e
        rcases Classical.em (Lib.indexByte t 10 = -1) with q | q
        · have hn := lnG_none t [] q
          rw [List.nil_append, if_neg e] at hn
          have h9 := ih [] (out ++ [t]) (by simp) (by simp; omega) (by rw [← he]; show out ++ [t] ++ lnG [] [] = out ++ lnG [] t; rw [hn]; simp [lnG])
          rw [List.map_append] at h9
          have d1 : decide ((-1 : Int) + 1 = 0) = true := by decide
          have d2 : decide ((0 : Int) = 0) = true := by decide
          apply hL
          simp only [L41_1, l41_1, ex,reduceIte,reduceCtorEq,Nat.reduceEqDiff,Nat.reduceLT,Nat.reduceLeDiff,Nat.reduceAdd,Nat.reduceSub,Nat.reduceMul,Int.reduceAdd,Int.reduceSub,Int.reduceMul,Int.reduceNeg,Int.reduceLE,Int.reduceLT,Int.reduceEq,Int.reduceToNat]
          (try simp only [h1, h2, ex,reduceIte,reduceCtorEq,Nat.reduceEqDiff,Nat.reduceLT,Nat.reduceLeDiff,Nat.reduceAdd,Nat.reduceSub,Nat.reduceMul,Int.reduceAdd,Int.reduceSub,Int.reduceMul,Int.reduceNeg,Int.reduceLE,Int.reduceLT,Int.reduceEq,Int.reduceToNat]) <;> repeat ((with_reducible refine Req.intro ?_ ?_); (first | omega | (simp <;> omega)); try simp only [h1, h2, ex,reduceIte,reduceCtorEq,Nat.reduceEqDiff,Nat.reduceLT,Nat.reduceLeDiff,Nat.reduceAdd,Nat.reduceSub,Nat.reduceMul,Int.reduceAdd,Int.reduceSub,Int.reduceMul,Int.reduceNeg,Int.reduceLE,Int.reduceLT,Int.reduceEq,Int.reduceToNat])
          refine CallA.eq rfl (index_spec t) rfl ?_
          rw [q]
          have dl : t.drop t.length = [] := List.drop_length
          have tl : t.take t.length = t := List.take_length
          (try simp only [d1, d2, dl, tl, ex,reduceIte,reduceCtorEq,Nat.reduceEqDiff,Nat.reduceLT,Nat.reduceLeDiff,Nat.reduceAdd,Nat.reduceSub,Nat.reduceMul,Int.reduceAdd,Int.reduceSub,Int.reduceMul,Int.reduceNeg,Int.reduceLE,Int.reduceLT,Int.reduceEq,Int.reduceToNat]) <;> repeat ((with_reducible refine Req.intro ?_ ?_); (first | omega | (simp <;> omega)); try simp only [d1, d2, dl, tl, ex,reduceIte,reduceCtorEq,Nat.reduceEqDiff,Nat.reduceLT,Nat.reduceLeDiff,Nat.reduceAdd,Nat.reduceSub,Nat.reduceMul,Int.reduceAdd,Int.reduceSub,Int.reduceMul,Int.reduceNeg,Int.reduceLE,Int.reduceLT,Int.reduceEq,Int.reduceToNat])
          exact h9
        · have hge := Lib.indexByte_ge t 10
          obtain ⟨k, hk⟩ : ∃ k : Nat, Lib.indexByte t 10 = (k : Int) := ⟨(Lib.indexByte t 10).toNat, by omega⟩
          have hn := lnG_some t [] k hk
          rw [List.nil_append] at hn
          have h9 := ih (t.drop (k + 1)) (out ++ [t.take (k + 1)]) (by simp; omega) (by simp; omega) (by rw [← he, show lns t = _ from hn.2]; simp)
          rw [List.map_append] at h9
          have d1 : decide ((k : Int) + 1 = 0) = false := by simp; omega
          have t1 : ((k : Int) + 1).toNat = k + 1 := by omega
          have hkl := hn.1
          apply hL
          simp only [L41_1, l41_1, ex,reduceIte,reduceCtorEq,Nat.reduceEqDiff,Nat.reduceLT,Nat.reduceLeDiff,Nat.reduceAdd,Nat.reduceSub,Nat.reduceMul,Int.reduceAdd,Int.reduceSub,Int.reduceMul,Int.reduceNeg,Int.reduceLE,Int.reduceLT,Int.reduceEq,Int.reduceToNat]
          (try simp only [h1, h2, ex,reduceIte,reduceCtorEq,Nat.reduceEqDiff,Nat.reduceLT,Nat.reduceLeDiff,Nat.reduceAdd,Nat.reduceSub,Nat.reduceMul,Int.reduceAdd,Int.reduceSub,Int.reduceMul,Int.reduceNeg,Int.reduceLE,Int.reduceLT,Int.reduceEq,Int.reduceToNat]) <;> repeat ((with_reducible refine Req.intro ?_ ?_); (first | omega | (simp <;> omega)); try simp only [h1, h2, ex,reduceIte,reduceCtorEq,Nat.reduceEqDiff,Nat.reduceLT,Nat.reduceLeDiff,Nat.reduceAdd,Nat.reduceSub,Nat.reduceMul,Int.reduceAdd,Int.reduceSub,Int.reduceMul,Int.reduceNeg,Int.reduceLE,Int.reduceLT,Int.reduceEq,Int.reduceToNat])
          refine CallA.eq rfl (index_spec t) rfl ?_
          rw [hk]
          (try simp only [d1, t1, ex,reduceIte,reduceCtorEq,Nat.reduceEqDiff,Nat.reduceLT,Nat.reduceLeDiff,Nat.reduceAdd,Nat.reduceSub,Nat.reduceMul,Int.reduceAdd,Int.reduceSub,Int.reduceMul,Int.reduceNeg,Int.reduceLE,Int.reduceLT,Int.reduceEq,Int.reduceToNat]) <;> repeat ((with_reducible refine Req.intro ?_ ?_); (first | omega | (simp <;> omega)); try simp only [d1, t1, ex,reduceIte,reduceCtorEq,Nat.reduceEqDiff,Nat.reduceLT,Nat.reduceLeDiff,Nat.reduceAdd,Nat.reduceSub,Nat.reduceMul,Int.reduceAdd,Int.reduceSub,Int.reduceMul,Int.reduceNeg,Int.reduceLE,Int.reduceLT,Int.reduceEq,Int.reduceToNat])
          exact h9
  exact key s.length s [] (Nat.le_refl _) (by simp) (by simp)

theorem rsplit_spec (s : Sx) (hs : s.length ≤ 1000000) : Run tab 43 0 [.str s] [] 0 (fun r _ _ => r = .sl true 1 ((lns s).map .str)) := by
  refine enter (F := f43) rfl rfl ?_
  simp only [f43, ex,reduceIte,reduceCtorEq,Nat.reduceEqDiff,Nat.reduceLT,Nat.reduceLeDiff,Nat.reduceAdd,Nat.reduceSub,Nat.reduceMul,Int.reduceAdd,Int.reduceSub,Int.reduceMul,Int.reduceNeg,Int.reduceLE,Int.reduceLT,Int.reduceEq,Int.reduceToNat]
  (try simp only [ex,reduceIte,reduceCtorEq,Nat.reduceEqDiff,Nat.reduceLT,Nat.reduceLeDiff,Nat.reduceAdd,Nat.reduceSub,Nat.reduceMul,Int.reduceAdd,Int.reduceSub,Int.reduceMul,Int.reduceNeg,Int.reduceLE,Int.reduceLT,Int.reduceEq,Int.reduceToNat]) <;> repeat ((with_reducible refine Req.intro ?_ ?_); (first | omega | (simp <;> omega)); try simp only [ex,reduceIte,reduceCtorEq,Nat.reduceEqDiff,Nat.reduceLT,Nat.reduceLeDiff,Nat.reduceAdd,Nat.reduceSub,Nat.reduceMul,Int.reduceAdd,Int.reduceSub,Int.reduceMul,Int.reduceNeg,Int.reduceLE,Int.reduceLT,Int.reduceEq,Int.reduceToNat])
  refine loopI fun L hL => ?_
  (try simp only [ex,reduceIte,reduceCtorEq,Nat.reduceEqDiff,Nat.reduceLT,Nat.reduceLeDiff,Nat.reduceAdd,Nat.reduceSub,Nat.reduceMul,Int.reduceAdd,Int.reduceSub,Int.reduceMul,Int.reduceNeg,Int.reduceLE,Int.reduceLT,Int.reduceEq,Int.reduceToNat]) <;> repeat ((with_reducible refine Req.intro ?_ ?_); (first | omega | (simp <;> omega)); try simp only [ex,reduceIte,reduceCtorEq,Nat.reduceEqDiff,Nat.reduceLT,Nat.reduceLeDiff,Nat.reduceAdd,Nat.reduceSub,Nat.reduceMul,Int.reduceAdd,Int.reduceSub,Int.reduceMul,Int.reduceNeg,Int.reduceLE,Int.reduceLT,Int.reduceEq,Int.reduceToNat])
  have key : ∀ (m i fr : Nat) (out : List Sx), i + m = s.length → fr ≤ i → out.length ≤ i → out ++ lnG ((s.take i).drop fr) (s.drop i) = lns s → L (L43_1 (.str s) (.sl true 1 (out.map .str)) (.int .i64 fr) (.int .i64 s.length) (.int .i64 i) [] 0) := by
    intro m
    induction m with
    | zero =>
      intro i fr out hi hf ho he
      have h1 : decide ((i : Int) < (s.length : Int)) = false := by simp; omega
      rw [show s.drop i = [] from List.drop_of_length_le (by omega), show s.take i = s from List.take_of_length_le (by omega), lnG] at he
      rcases Nat.lt_or_ge fr s.length with c | c
      · have h2 : decide ((fr : Int) < (s.length : Int)) = true := by simp; omega
        rw [if_neg (fun e => by have := congrArg List.length e; simp at this; omega)] at he
        apply hL
        simp only [L43_1, l43_1, ex,reduceIte,reduceCtorEq,Nat.reduceEqDiff,Nat.reduceLT,Nat.reduceLeDiff,Nat.reduceAdd,Nat.reduceSub,Nat.reduceMul,Int.reduceAdd,Int.reduceSub,Int.reduceMul,Int.reduceNeg,Int.reduceLE,Int.reduceLT,Int.reduceEq,Int.reduceToNat]
        (try simp only [h1, h2, ex,reduceIte,reduceCtorEq,Nat.reduceEqDiff,Nat.reduceLT,Nat.reduceLeDiff,Nat.reduceAdd,Nat.reduceSub,Nat.reduceMul,Int.reduceAdd,Int.reduceSub,Int.reduceMul,Int.reduceNeg,Int.reduceLE,Int.reduceLT,Int.reduceEq,Int.reduceToNat]) <;> repeat ((with_reducible refine Req.intro ?_ ?_); (first | omega | (simp <;> omega)); try simp only [h1, h2, ex,reduceIte,reduceCtorEq,Nat.reduceEqDiff,Nat.reduceLT,Nat.reduceLeDiff,Nat.reduceAdd,Nat.reduceSub,Nat.reduceMul,Int.reduceAdd,Int.reduceSub,Int.reduceMul,Int.reduceNeg,Int.reduceLE,Int.reduceLT,Int.reduceEq,Int.reduceToNat])
        rw [← he]; simp
      · have h2 : decide ((fr : Int) < (s.length : Int)) = false := by simp; omega
        rw [if_pos (List.drop_of_length_le c), List.append_nil] at he
        apply hL
        simp only [L43_1, l43_1, ex,reduceIte,reduceCtorEq,Nat.reduceEqDiff,Nat.reduceLT,Nat.reduceLeDiff,Nat.reduceAdd,Nat.reduceSub,Nat.reduceMul,Int.reduceAdd,Int.reduceSub,Int.reduceMul,Int.reduceNeg,Int.reduceLE,Int.reduceLT,Int.reduceEq,Int.reduceToNat]
        (try simp only [h1, h2, ex,reduceIte,reduceCtorEq,Nat.reduceEqDiff,Nat.reduceLT,Nat.reduceLeDiff,Nat.reduceAdd,Nat.reduceSub,Nat.reduceMul,Int.reduceAdd,Int.reduceSub,Int.reduceMul,Int.reduceNeg,Int.reduceLE,Int.reduceLT,Int.reduceEq,Int.reduceToNat]) <;> repeat ((with_reducible refine Req.intro ?_ ?_); (first | omega | (simp <;> omega)); try simp only [h1, h2, ex,reduceIte,reduceCtorEq,Nat.reduceEqDiff,Nat.reduceLT,Nat.reduceLeDiff,Nat.reduceAdd,Nat.reduceSub,Nat.reduceMul,Int.reduceAdd,Int.reduceSub,Int.reduceMul,Int.reduceNeg,Int.reduceLE,Int.reduceLT,Int.reduceEq,Int.reduceToNat])
        rw [he]
    | succ m ih =>
      intro i fr out hi hf ho he
      have h1 : decide ((i : Int) < (s.length : Int)) = true := by simp; omega
      have g1 : s[i]? = some (s[i]'(by omega)) := List.getElem?_eq_getElem _
      have g2 : s.getD i 0 = s[i]'(by omega) := by rw [List.getD_eq_getElem?_getD, g1]; rfl
      rw [show s.drop i = s[i]'(by omega) :: s.drop (i + 1) from List.drop_eq_getElem_cons (by omega), lnG] at he
      have ht : (s.take (i + 1)).drop fr = (s.take i).drop fr ++ [s[i]'(by omega)] := by
        rw [List.take_add_one, g1, List.drop_append_of_le_length (by simp; omega)]; rfl
      generalize s[i]'(by omega) = c at *
      have t1 : ((i : Int) + 1).toNat = i + 1 := by omega
      rcases Classical.em (c = 10) with e | e
      · have h2 : decide (((c.toNat : Nat) : Int) = 10) = true := by rw [e]; decide
        rw [if_pos e, ← ht] at he
        have h9 := ih (i + 1) (i + 1) (out ++ [(s.take (i + 1)).drop fr]) (by omega) (by omega) (by simp; omega) (by rw [← he]; simp [List.drop_of_length_le])
        rw [List.map_append] at h9
        apply hL
        simp only [L43_1, l43_1, ex,reduceIte,reduceCtorEq,Nat.reduceEqDiff,Nat.reduceLT,Nat.reduceLeDiff,Nat.reduceAdd,Nat.reduceSub,Nat.reduceMul,Int.reduceAdd,Int.reduceSub,Int.reduceMul,Int.reduceNeg,Int.reduceLE,Int.reduceLT,Int.reduceEq,Int.reduceToNat]
        (try simp only [h1, g1, g2, h2, t1, ex,reduceIte,reduceCtorEq,Nat.reduceEqDiff,Nat.reduceLT,Nat.reduceLeDiff,Nat.reduceAdd,Nat.reduceSub,Nat.reduceMul,Int.reduceAdd,Int.reduceSub,Int.reduceMul,Int.reduceNeg,Int.reduceLE,Int.reduceLT,Int.reduceEq,Int.reduceToNat]) <;> repeat ((with_reducible refine Req.intro ?_ ?_); (first | omega | (simp <;> omega)); try simp only [h1, g1, g2, h2, t1, ex,reduceIte,reduceCtorEq,Nat.reduceEqDiff,Nat.reduceLT,Nat.reduceLeDiff,Nat.reduceAdd,Nat.reduceSub,Nat.reduceMul,Int.reduceAdd,Int.reduceSub,Int.reduceMul,Int.reduceNeg,Int.reduceLE,Int.reduceLT,Int.reduceEq,Int.reduceToNat])
        exact h9
      · have h2 : decide (((c.toNat : Nat) : Int) = 10) = false := by
          simp only [decide_eq_false_iff_not]
          intro h
          apply e
          apply UInt8.toNat_inj.1
          show c.toNat = 10
          omega
        rw [if_neg e, ← ht] at he
        have h9 := ih (i + 1) fr out (by omega) (by omega) (by omega) he
        apply hL
        simp only [L43_1, l43_1, ex,reduceIte,reduceCtorEq,Nat.reduceEqDiff,Nat.reduceLT,Nat.reduceLeDiff,Nat.reduceAdd,Nat.reduceSub,Nat.reduceMul,Int.reduceAdd,Int.reduceSub,Int.reduceMul,Int.reduceNeg,Int.reduceLE,Int.reduceLT,Int.reduceEq,Int.reduceToNat]
        (try simp only [h1, g1, g2, h2, t1, ex,reduceIte,reduceCtorEq,Nat.reduceEqDiff,Nat.reduceLT,Nat.reduceLeDiff,Nat.reduceAdd,Nat.reduceSub,Nat.reduceMul,Int.reduceAdd,Int.reduceSub,Int.reduceMul,Int.reduceNeg,Int.reduceLE,Int.reduceLT,Int.reduceEq,Int.reduceToNat]) <;> repeat ((with_reducible refine Req.intro ?_ ?_); (first | omega | (simp <;> omega)); try simp only [h1, g1, g2, h2, t1, ex,reduceIte,reduceCtorEq,Nat.reduceEqDiff,Nat.reduceLT,Nat.reduceLeDiff,Nat.reduceAdd,Nat.reduceSub,Nat.reduceMul,Int.reduceAdd,Int.reduceSub,Int.reduceMul,Int.reduceNeg,Int.reduceLE,Int.reduceLT,Int.reduceEq,Int.reduceToNat])
        exact h9
  exact key s.length 0 0 [] (Nat.zero_add _) (Nat.le_refl _) (by simp) (by simp [lns])
end Go.Proofs.Ytnodepfoahmcmaa.E.Hs

/- Chapter 12: regions; Clean and Lines of both. Conditions: none. -/
namespace Go.Proofs.Ytnodepfoahmcmaa.E.Hs
set_option linter.unusedVariables false
set_option linter.unusedSimpArgs false
set_option maxHeartbeats 20000000
set_option maxRecDepth 100000

/-- A region. -/
structure Rg where
  k : Int
  l : List Sx
  o : List Sx
  b : List Sx
  t : List Sx
def rgV (r : Rg) : V := .agg [.int .i64 r.k, .sl false 1 (r.l.map .str), .sl false 1 (r.o.map .str), .sl false 1 (r.b.map .str), .sl false 1 (r.t.map .str)]
/-- Regions that are not too long. -/
def OkR (rs : List Rg) : Prop := rs.length ≤ 10000 ∧ ∀ r ∈ rs, r.l.length ≤ 10000 ∧ r.o.length ≤ 10000 ∧ r.b.length ≤ 10000 ∧ r.t.length ≤ 10000
theorem rgV_get (rs : List Rg) (i : Nat) (h : i < rs.length) : (rs.map rgV)[i]? = some (rgV rs[i]) := by simp [h]
def isCl (rs : List Rg) : Bool := !rs.any fun r => decide (r.k = 2)
theorem any_step (rs : List Rg) (p : Rg → Bool) (i : Nat) (h : i < rs.length) : (rs.drop i).any p = (p rs[i] || (rs.drop (i + 1)).any p) := by rw [List.drop_eq_getElem_cons h, List.any_cons]

theorem cfn_spec (r : Rg) (h : Heap) (n : Nat) : Run tab 34 0 [rgV r] h n (fun v h' n' => v = .bool (decide (r.k = 2)) ∧ h' = h ∧ n' = n + 1) := by
  refine enter (F := f34) rfl rfl ?_
  simp only [f34, rgV, ex,reduceIte,reduceCtorEq,Nat.reduceEqDiff,Nat.reduceLT,Nat.reduceLeDiff,Nat.reduceAdd,Nat.reduceSub,Nat.reduceMul,Int.reduceAdd,Int.reduceSub,Int.reduceMul,Int.reduceNeg,Int.reduceLE,Int.reduceLT,Int.reduceEq,Int.reduceToNat]
theorem idxR_spec (o : Bool) (rs : List Rg) (h : Heap) (n : Nat) (hl : rs.length ≤ 10000) :
    Run tab 53 0 [.sl o 5 (rs.map rgV), .fn 34 []] h n (fun v h' n' => (∃ i : Int, v = .int .i64 i ∧ decide (i ≥ 0) = rs.any fun r => decide (r.k = 2)) ∧ h' = h ∧ n ≤ n') := by
  refine enter (F := f53) rfl rfl ?_
  simp only [f53, ex,reduceIte,reduceCtorEq,Nat.reduceEqDiff,Nat.reduceLT,Nat.reduceLeDiff,Nat.reduceAdd,Nat.reduceSub,Nat.reduceMul,Int.reduceAdd,Int.reduceSub,Int.reduceMul,Int.reduceNeg,Int.reduceLE,Int.reduceLT,Int.reduceEq,Int.reduceToNat]
  (try simp only [ex,reduceIte,reduceCtorEq,Nat.reduceEqDiff,Nat.reduceLT,Nat.reduceLeDiff,Nat.reduceAdd,Nat.reduceSub,Nat.reduceMul,Int.reduceAdd,Int.reduceSub,Int.reduceMul,Int.reduceNeg,Int.reduceLE,Int.reduceLT,Int.reduceEq,Int.reduceToNat]) <;> repeat ((with_reducible refine Req.intro ?_ ?_); (first | omega | (simp <;> omega)); try simp only [ex,reduceIte,reduceCtorEq,Nat.reduceEqDiff,Nat.reduceLT,Nat.reduceLeDiff,Nat.reduceAdd,Nat.reduceSub,Nat.reduceMul,Int.reduceAdd,Int.reduceSub,Int.reduceMul,Int.reduceNeg,Int.reduceLE,Int.reduceLT,Int.reduceEq,Int.reduceToNat])
  refine loopI fun L hL => ?_
  (try simp only [ex,reduceIte,reduceCtorEq,Nat.reduceEqDiff,Nat.reduceLT,Nat.reduceLeDiff,Nat.reduceAdd,Nat.reduceSub,Nat.reduceMul,Int.reduceAdd,Int.reduceSub,Int.reduceMul,Int.reduceNeg,Int.reduceLE,Int.reduceLT,Int.reduceEq,Int.reduceToNat]) <;> repeat ((with_reducible refine Req.intro ?_ ?_); (first | omega | (simp <;> omega)); try simp only [ex,reduceIte,reduceCtorEq,Nat.reduceEqDiff,Nat.reduceLT,Nat.reduceLeDiff,Nat.reduceAdd,Nat.reduceSub,Nat.reduceMul,Int.reduceAdd,Int.reduceSub,Int.reduceMul,Int.reduceNeg,Int.reduceLE,Int.reduceLT,Int.reduceEq,Int.reduceToNat])
  have key : ∀ (m i N : Nat), i + m = rs.length → n ≤ N → (rs.take i).any (fun r => decide (r.k = 2)) = false → L (L53_1 (.sl o 5 (rs.map rgV)) (.fn 34 []) (.int .i64 rs.length) (.int .i64 i) h N) := by
    intro m
    induction m with
    | zero =>
      intro i N hi hN ha
      have k1 : decide ((i : Int) < (rs.length : Int)) = false := by simp; omega
      rw [List.take_of_length_le (by omega)] at ha
      apply hL
      simp only [L53_1, l53_1, ex,reduceIte,reduceCtorEq,Nat.reduceEqDiff,Nat.reduceLT,Nat.reduceLeDiff,Nat.reduceAdd,Nat.reduceSub,Nat.reduceMul,Int.reduceAdd,Int.reduceSub,Int.reduceMul,Int.reduceNeg,Int.reduceLE,Int.reduceLT,Int.reduceEq,Int.reduceToNat]
      (try simp only [k1, ex,reduceIte,reduceCtorEq,Nat.reduceEqDiff,Nat.reduceLT,Nat.reduceLeDiff,Nat.reduceAdd,Nat.reduceSub,Nat.reduceMul,Int.reduceAdd,Int.reduceSub,Int.reduceMul,Int.reduceNeg,Int.reduceLE,Int.reduceLT,Int.reduceEq,Int.reduceToNat]) <;> repeat ((with_reducible refine Req.intro ?_ ?_); (first | omega | (simp <;> omega)); try simp only [k1, ex,reduceIte,reduceCtorEq,Nat.reduceEqDiff,Nat.reduceLT,Nat.reduceLeDiff,Nat.reduceAdd,Nat.reduceSub,Nat.reduceMul,Int.reduceAdd,Int.reduceSub,Int.reduceMul,Int.reduceNeg,Int.reduceLE,Int.reduceLT,Int.reduceEq,Int.reduceToNat])
      exact ⟨⟨_, rfl, by rw [ha]; decide⟩, hN⟩
    | succ m ih =>
      intro i N hi hN ha
      have k1 : decide ((i : Int) < (rs.length : Int)) = true := by simp; omega
      have g1 : rs[i]? = some (rs[i]'(by omega)) := List.getElem?_eq_getElem _
      have ht : rs.take (i + 1) = rs.take i ++ [rs[i]'(by omega)] := by rw [List.take_add_one, g1]; rfl
      have hm : rs[i]'(by omega) ∈ rs := List.getElem_mem _
      generalize rs[i]'(by omega) = r at *
      have hc : (rgV r).cells = [.int .i64 r.k, .sl false 1 (r.l.map .str), .sl false 1 (r.o.map .str), .sl false 1 (r.b.map .str), .sl false 1 (r.t.map .str)] := rfl
      apply hL
      simp only [L53_1, l53_1, ex,reduceIte,reduceCtorEq,Nat.reduceEqDiff,Nat.reduceLT,Nat.reduceLeDiff,Nat.reduceAdd,Nat.reduceSub,Nat.reduceMul,Int.reduceAdd,Int.reduceSub,Int.reduceMul,Int.reduceNeg,Int.reduceLE,Int.reduceLT,Int.reduceEq,Int.reduceToNat]
      (try simp only [k1, g1, hc, ex,reduceIte,reduceCtorEq,Nat.reduceEqDiff,Nat.reduceLT,Nat.reduceLeDiff,Nat.reduceAdd,Nat.reduceSub,Nat.reduceMul,Int.reduceAdd,Int.reduceSub,Int.reduceMul,Int.reduceNeg,Int.reduceLE,Int.reduceLT,Int.reduceEq,Int.reduceToNat]) <;> repeat ((with_reducible refine Req.intro ?_ ?_); (first | omega | (simp <;> omega)); try simp only [k1, g1, hc, ex,reduceIte,reduceCtorEq,Nat.reduceEqDiff,Nat.reduceLT,Nat.reduceLeDiff,Nat.reduceAdd,Nat.reduceSub,Nat.reduceMul,Int.reduceAdd,Int.reduceSub,Int.reduceMul,Int.reduceNeg,Int.reduceLE,Int.reduceLT,Int.reduceEq,Int.reduceToNat])
      refine CallH.eq (cfn_spec r h N) ?_
      have hnn : N + (N + 1 - N) = N + 1 := by omega
      refine Classical.byCases (p := r.k = 2) (fun e => ?_) (fun e => ?_)
      · have e1 : decide (r.k = 2) = true := decide_eq_true e
        have ha2 : rs.any (fun r => decide (r.k = 2)) = true := List.any_eq_true.2 ⟨r, hm, e1⟩
        (try simp only [e1, hnn, ex,reduceIte,reduceCtorEq,Nat.reduceEqDiff,Nat.reduceLT,Nat.reduceLeDiff,Nat.reduceAdd,Nat.reduceSub,Nat.reduceMul,Int.reduceAdd,Int.reduceSub,Int.reduceMul,Int.reduceNeg,Int.reduceLE,Int.reduceLT,Int.reduceEq,Int.reduceToNat]) <;> repeat ((with_reducible refine Req.intro ?_ ?_); (first | omega | (simp <;> omega)); try simp only [e1, hnn, ex,reduceIte,reduceCtorEq,Nat.reduceEqDiff,Nat.reduceLT,Nat.reduceLeDiff,Nat.reduceAdd,Nat.reduceSub,Nat.reduceMul,Int.reduceAdd,Int.reduceSub,Int.reduceMul,Int.reduceNeg,Int.reduceLE,Int.reduceLT,Int.reduceEq,Int.reduceToNat])
        exact ⟨⟨_, rfl, by rw [ha2]; simp⟩, by omega⟩
      · have e1 : decide (r.k = 2) = false := decide_eq_false e
        have h9 := ih (i + 1) (N + 1) (by omega) (by omega) (by rw [ht, List.any_append, ha]; simp [e])
        (try simp only [e1, hnn, ex,reduceIte,reduceCtorEq,Nat.reduceEqDiff,Nat.reduceLT,Nat.reduceLeDiff,Nat.reduceAdd,Nat.reduceSub,Nat.reduceMul,Int.reduceAdd,Int.reduceSub,Int.reduceMul,Int.reduceNeg,Int.reduceLE,Int.reduceLT,Int.reduceEq,Int.reduceToNat]) <;> repeat ((with_reducible refine Req.intro ?_ ?_); (first | omega | (simp <;> omega)); try simp only [e1, hnn, ex,reduceIte,reduceCtorEq,Nat.reduceEqDiff,Nat.reduceLT,Nat.reduceLeDiff,Nat.reduceAdd,Nat.reduceSub,Nat.reduceMul,Int.reduceAdd,Int.reduceSub,Int.reduceMul,Int.reduceNeg,Int.reduceLE,Int.reduceLT,Int.reduceEq,Int.reduceToNat])
        exact h9
  exact key rs.length 0 n (Nat.zero_add _) (Nat.le_refl _) rfl
theorem cfR_spec (o : Bool) (rs : List Rg) (h : Heap) (n : Nat) (hl : rs.length ≤ 10000) :
    Run tab 33 0 [.sl o 5 (rs.map rgV), .fn 34 []] h n (fun v h' n' => v = .bool (rs.any fun r => decide (r.k = 2)) ∧ h' = h ∧ n ≤ n') := by
  refine enter (F := f33) rfl rfl ?_
  simp only [f33, ex,reduceIte,reduceCtorEq,Nat.reduceEqDiff,Nat.reduceLT,Nat.reduceLeDiff,Nat.reduceAdd,Nat.reduceSub,Nat.reduceMul,Int.reduceAdd,Int.reduceSub,Int.reduceMul,Int.reduceNeg,Int.reduceLE,Int.reduceLT,Int.reduceEq,Int.reduceToNat]
  (try simp only [ex,reduceIte,reduceCtorEq,Nat.reduceEqDiff,Nat.reduceLT,Nat.reduceLeDiff,Nat.reduceAdd,Nat.reduceSub,Nat.reduceMul,Int.reduceAdd,Int.reduceSub,Int.reduceMul,Int.reduceNeg,Int.reduceLE,Int.reduceLT,Int.reduceEq,Int.reduceToNat]) <;> repeat ((with_reducible refine Req.intro ?_ ?_); (first | omega | (simp <;> omega)); try simp only [ex,reduceIte,reduceCtorEq,Nat.reduceEqDiff,Nat.reduceLT,Nat.reduceLeDiff,Nat.reduceAdd,Nat.reduceSub,Nat.reduceMul,Int.reduceAdd,Int.reduceSub,Int.reduceMul,Int.reduceNeg,Int.reduceLE,Int.reduceLT,Int.reduceEq,Int.reduceToNat])
  refine CallH.any (idxR_spec _ rs h n hl) ?_
  intro v h' m hx
  have y := hx.1.choose_spec
  generalize hx.1.choose = i at y
  have y1 := y.1
  have y2 := y.2
  have y3 := hx.2.1
  have y4 := hx.2.2
  clear hx y
  (try simp only [y1, y2, y3, ex,reduceIte,reduceCtorEq,Nat.reduceEqDiff,Nat.reduceLT,Nat.reduceLeDiff,Nat.reduceAdd,Nat.reduceSub,Nat.reduceMul,Int.reduceAdd,Int.reduceSub,Int.reduceMul,Int.reduceNeg,Int.reduceLE,Int.reduceLT,Int.reduceEq,Int.reduceToNat]) <;> repeat ((with_reducible refine Req.intro ?_ ?_); (first | omega | (simp <;> omega)); try simp only [y1, y2, y3, ex,reduceIte,reduceCtorEq,Nat.reduceEqDiff,Nat.reduceLT,Nat.reduceLeDiff,Nat.reduceAdd,Nat.reduceSub,Nat.reduceMul,Int.reduceAdd,Int.reduceSub,Int.reduceMul,Int.reduceNeg,Int.reduceLE,Int.reduceLT,Int.reduceEq,Int.reduceToNat])
  omega
theorem clean1_spec (o : Bool) (rs : List Rg) (hl : rs.length ≤ 10000) : Run tab 13 0 [.sl o 5 (rs.map rgV)] [] 0 (fun v _ _ => v = .bool (isCl rs)) := by
  refine enter (F := f13) rfl rfl ?_
  simp only [f13, ex,reduceIte,reduceCtorEq,Nat.reduceEqDiff,Nat.reduceLT,Nat.reduceLeDiff,Nat.reduceAdd,Nat.reduceSub,Nat.reduceMul,Int.reduceAdd,Int.reduceSub,Int.reduceMul,Int.reduceNeg,Int.reduceLE,Int.reduceLT,Int.reduceEq,Int.reduceToNat]
  (try simp only [ex,reduceIte,reduceCtorEq,Nat.reduceEqDiff,Nat.reduceLT,Nat.reduceLeDiff,Nat.reduceAdd,Nat.reduceSub,Nat.reduceMul,Int.reduceAdd,Int.reduceSub,Int.reduceMul,Int.reduceNeg,Int.reduceLE,Int.reduceLT,Int.reduceEq,Int.reduceToNat]) <;> repeat ((with_reducible refine Req.intro ?_ ?_); (first | omega | (simp <;> omega)); try simp only [ex,reduceIte,reduceCtorEq,Nat.reduceEqDiff,Nat.reduceLT,Nat.reduceLeDiff,Nat.reduceAdd,Nat.reduceSub,Nat.reduceMul,Int.reduceAdd,Int.reduceSub,Int.reduceMul,Int.reduceNeg,Int.reduceLE,Int.reduceLT,Int.reduceEq,Int.reduceToNat])
  refine CallH.any (cfR_spec _ rs [] 0 hl) ?_
  intro v h' m hx
  have y1 := hx.1
  have y3 := hx.2.1
  clear hx
  (try simp only [y1, y3, ex,reduceIte,reduceCtorEq,Nat.reduceEqDiff,Nat.reduceLT,Nat.reduceLeDiff,Nat.reduceAdd,Nat.reduceSub,Nat.reduceMul,Int.reduceAdd,Int.reduceSub,Int.reduceMul,Int.reduceNeg,Int.reduceLE,Int.reduceLT,Int.reduceEq,Int.reduceToNat]) <;> repeat ((with_reducible refine Req.intro ?_ ?_); (first | omega | (simp <;> omega)); try simp only [y1, y3, ex,reduceIte,reduceCtorEq,Nat.reduceEqDiff,Nat.reduceLT,Nat.reduceLeDiff,Nat.reduceAdd,Nat.reduceSub,Nat.reduceMul,Int.reduceAdd,Int.reduceSub,Int.reduceMul,Int.reduceNeg,Int.reduceLE,Int.reduceLT,Int.reduceEq,Int.reduceToNat])
  rfl
theorem clean2_spec (o : Bool) (rs : List Rg) (hl : rs.length ≤ 10000) : Run tab 14 0 [.sl o 5 (rs.map rgV)] [] 0 (fun v _ _ => v = .bool (isCl rs)) := by
  refine enter (F := f14) rfl rfl ?_
  simp only [f14, ex,reduceIte,reduceCtorEq,Nat.reduceEqDiff,Nat.reduceLT,Nat.reduceLeDiff,Nat.reduceAdd,Nat.reduceSub,Nat.reduceMul,Int.reduceAdd,Int.reduceSub,Int.reduceMul,Int.reduceNeg,Int.reduceLE,Int.reduceLT,Int.reduceEq,Int.reduceToNat]
  (try simp only [ex,reduceIte,reduceCtorEq,Nat.reduceEqDiff,Nat.reduceLT,Nat.reduceLeDiff,Nat.reduceAdd,Nat.reduceSub,Nat.reduceMul,Int.reduceAdd,Int.reduceSub,Int.reduceMul,Int.reduceNeg,Int.reduceLE,Int.reduceLT,Int.reduceEq,Int.reduceToNat]) <;> repeat ((with_reducible refine Req.intro ?_ ?_); (first | omega | (simp <;> omega)); try simp only [ex,reduceIte,reduceCtorEq,Nat.reduceEqDiff,Nat.reduceLT,Nat.reduceLeDiff,Nat.reduceAdd,Nat.reduceSub,Nat.reduceMul,Int.reduceAdd,Int.reduceSub,Int.reduceMul,Int.reduceNeg,Int.reduceLE,Int.reduceLT,Int.reduceEq,Int.reduceToNat])
  refine loopI fun L hL => ?_
  (try simp only [ex,reduceIte,reduceCtorEq,Nat.reduceEqDiff,Nat.reduceLT,Nat.reduceLeDiff,Nat.reduceAdd,Nat.reduceSub,Nat.reduceMul,Int.reduceAdd,Int.reduceSub,Int.reduceMul,Int.reduceNeg,Int.reduceLE,Int.reduceLT,Int.reduceEq,Int.reduceToNat]) <;> repeat ((with_reducible refine Req.intro ?_ ?_); (first | omega | (simp <;> omega)); try simp only [ex,reduceIte,reduceCtorEq,Nat.reduceEqDiff,Nat.reduceLT,Nat.reduceLeDiff,Nat.reduceAdd,Nat.reduceSub,Nat.reduceMul,Int.reduceAdd,Int.reduceSub,Int.reduceMul,Int.reduceNeg,Int.reduceLE,Int.reduceLT,Int.reduceEq,Int.reduceToNat])
  have key : ∀ (m i : Nat), i + m = rs.length → (rs.take i).any (fun r => decide (r.k = 2)) = false → L (L14_1 (.sl o 5 (rs.map rgV)) (.int .i64 i) [] 0) := by
    intro m
    induction m with
    | zero =>
      intro i hi ha
      have k1 : decide ((i : Int) < (rs.length : Int)) = false := by simp; omega
      rw [List.take_of_length_le (by omega)] at ha
      apply hL
      simp only [L14_1, l14_1, ex,reduceIte,reduceCtorEq,Nat.reduceEqDiff,Nat.reduceLT,Nat.reduceLeDiff,Nat.reduceAdd,Nat.reduceSub,Nat.reduceMul,Int.reduceAdd,Int.reduceSub,Int.reduceMul,Int.reduceNeg,Int.reduceLE,Int.reduceLT,Int.reduceEq,Int.reduceToNat]
      (try simp only [k1, ex,reduceIte,reduceCtorEq,Nat.reduceEqDiff,Nat.reduceLT,Nat.reduceLeDiff,Nat.reduceAdd,Nat.reduceSub,Nat.reduceMul,Int.reduceAdd,Int.reduceSub,Int.reduceMul,Int.reduceNeg,Int.reduceLE,Int.reduceLT,Int.reduceEq,Int.reduceToNat]) <;> repeat ((with_reducible refine Req.intro ?_ ?_); (first | omega | (simp <;> omega)); try simp only [k1, ex,reduceIte,reduceCtorEq,Nat.reduceEqDiff,Nat.reduceLT,Nat.reduceLeDiff,Nat.reduceAdd,Nat.reduceSub,Nat.reduceMul,Int.reduceAdd,Int.reduceSub,Int.reduceMul,Int.reduceNeg,Int.reduceLE,Int.reduceLT,Int.reduceEq,Int.reduceToNat])
      unfold isCl
      rw [ha]; rfl
    | succ m ih =>
      intro i hi ha
      have k1 : decide ((i : Int) < (rs.length : Int)) = true := by simp; omega
      have g1 : rs[i]? = some (rs[i]'(by omega)) := List.getElem?_eq_getElem _
      have ht : rs.take (i + 1) = rs.take i ++ [rs[i]'(by omega)] := by rw [List.take_add_one, g1]; rfl
      have hm : rs[i]'(by omega) ∈ rs := List.getElem_mem _
      generalize rs[i]'(by omega) = r at *
      have hc : (rgV r).cells = [.int .i64 r.k, .sl false 1 (r.l.map .str), .sl false 1 (r.o.map .str), .sl false 1 (r.b.map .str), .sl false 1 (r.t.map .str)] := rfl
      refine Classical.byCases (p := r.k = 2) (fun e => ?_) (fun e => ?_)
      · have e1 : decide (r.k = 2) = true := decide_eq_true e
        have ha2 : rs.any (fun r => decide (r.k = 2)) = true := List.any_eq_true.2 ⟨r, hm, e1⟩
        apply hL
        simp only [L14_1, l14_1, ex,reduceIte,reduceCtorEq,Nat.reduceEqDiff,Nat.reduceLT,Nat.reduceLeDiff,Nat.reduceAdd,Nat.reduceSub,Nat.reduceMul,Int.reduceAdd,Int.reduceSub,Int.reduceMul,Int.reduceNeg,Int.reduceLE,Int.reduceLT,Int.reduceEq,Int.reduceToNat]
        (try simp only [k1, g1, hc, e1, ex,reduceIte,reduceCtorEq,Nat.reduceEqDiff,Nat.reduceLT,Nat.reduceLeDiff,Nat.reduceAdd,Nat.reduceSub,Nat.reduceMul,Int.reduceAdd,Int.reduceSub,Int.reduceMul,Int.reduceNeg,Int.reduceLE,Int.reduceLT,Int.reduceEq,Int.reduceToNat]) <;> repeat ((with_reducible refine Req.intro ?_ ?_); (first | omega | (simp <;> omega)); try simp only [k1, g1, hc, e1, ex,reduceIte,reduceCtorEq,Nat.reduceEqDiff,Nat.reduceLT,Nat.reduceLeDiff,Nat.reduceAdd,Nat.reduceSub,Nat.reduceMul,Int.reduceAdd,Int.reduceSub,Int.reduceMul,Int.reduceNeg,Int.reduceLE,Int.reduceLT,Int.reduceEq,Int.reduceToNat])
        unfold isCl
        rw [ha2]; rfl
      · have e1 : decide (r.k = 2) = false := decide_eq_false e
        have h9 := ih (i + 1) (by omega) (by rw [ht, List.any_append, ha]; simp [e])
        apply hL
        simp only [L14_1, l14_1, ex,reduceIte,reduceCtorEq,Nat.reduceEqDiff,Nat.reduceLT,Nat.reduceLeDiff,Nat.reduceAdd,Nat.reduceSub,Nat.reduceMul,Int.reduceAdd,Int.reduceSub,Int.reduceMul,Int.reduceNeg,Int.reduceLE,Int.reduceLT,Int.reduceEq,Int.reduceToNat]
        (try simp only [k1, g1, hc, e1, ex,reduceIte,reduceCtorEq,Nat.reduceEqDiff,Nat.reduceLT,Nat.reduceLeDiff,Nat.reduceAdd,Nat.reduceSub,Nat.reduceMul,Int.reduceAdd,Int.reduceSub,Int.reduceMul,Int.reduceNeg,Int.reduceLE,Int.reduceLT,Int.reduceEq,Int.reduceToNat]) <;> repeat ((with_reducible refine Req.intro ?_ ?_); (first | omega | (simp <;> omega)); try simp only [k1, g1, hc, e1, ex,reduceIte,reduceCtorEq,Nat.reduceEqDiff,Nat.reduceLT,Nat.reduceLeDiff,Nat.reduceAdd,Nat.reduceSub,Nat.reduceMul,Int.reduceAdd,Int.reduceSub,Int.reduceMul,Int.reduceNeg,Int.reduceLE,Int.reduceLT,Int.reduceEq,Int.reduceToNat])
        exact h9
  exact key rs.length 0 (Nat.zero_add _) rfl
end Go.Proofs.Ytnodepfoahmcmaa.E.Hs

/- Chapter 12: comparing lists and regions; few. Conditions: none. -/
namespace Go.Proofs.Ytnodepfoahmcmaa.E.Hs
set_option linter.unusedVariables false
set_option linter.unusedSimpArgs false
set_option maxHeartbeats 20000000
set_option maxRecDepth 100000

theorem same6_spec (o o' : Bool) (a b : List Sx) (ha : a.length ≤ 1000000) (hb : b.length ≤ 1000000) :
    Run tab 16 0 [.sl o 1 (a.map .str), .sl o' 1 (b.map .str)] [] 0 (fun r _ _ => r = .bool (decide (a = b))) := by
  refine enter (F := f16) rfl rfl ?_
  simp only [f16, ex,reduceIte,reduceCtorEq,Nat.reduceEqDiff,Nat.reduceLT,Nat.reduceLeDiff,Nat.reduceAdd,Nat.reduceSub,Nat.reduceMul,Int.reduceAdd,Int.reduceSub,Int.reduceMul,Int.reduceNeg,Int.reduceLE,Int.reduceLT,Int.reduceEq,Int.reduceToNat]
  rcases Classical.em (a.length = b.length) with c | c
  · have h0 : decide ((a.length : Int) = (b.length : Int)) = true := by simp; omega
    (try simp only [h0, ex,reduceIte,reduceCtorEq,Nat.reduceEqDiff,Nat.reduceLT,Nat.reduceLeDiff,Nat.reduceAdd,Nat.reduceSub,Nat.reduceMul,Int.reduceAdd,Int.reduceSub,Int.reduceMul,Int.reduceNeg,Int.reduceLE,Int.reduceLT,Int.reduceEq,Int.reduceToNat]) <;> repeat ((with_reducible refine Req.intro ?_ ?_); (first | omega | (simp <;> omega)); try simp only [h0, ex,reduceIte,reduceCtorEq,Nat.reduceEqDiff,Nat.reduceLT,Nat.reduceLeDiff,Nat.reduceAdd,Nat.reduceSub,Nat.reduceMul,Int.reduceAdd,Int.reduceSub,Int.reduceMul,Int.reduceNeg,Int.reduceLE,Int.reduceLT,Int.reduceEq,Int.reduceToNat])
    refine loopI fun L hL => ?_
    (try simp only [ex,reduceIte,reduceCtorEq,Nat.reduceEqDiff,Nat.reduceLT,Nat.reduceLeDiff,Nat.reduceAdd,Nat.reduceSub,Nat.reduceMul,Int.reduceAdd,Int.reduceSub,Int.reduceMul,Int.reduceNeg,Int.reduceLE,Int.reduceLT,Int.reduceEq,Int.reduceToNat]) <;> repeat ((with_reducible refine Req.intro ?_ ?_); (first | omega | (simp <;> omega)); try simp only [ex,reduceIte,reduceCtorEq,Nat.reduceEqDiff,Nat.reduceLT,Nat.reduceLeDiff,Nat.reduceAdd,Nat.reduceSub,Nat.reduceMul,Int.reduceAdd,Int.reduceSub,Int.reduceMul,Int.reduceNeg,Int.reduceLE,Int.reduceLT,Int.reduceEq,Int.reduceToNat])
    have key : ∀ m i : Nat, i + m = a.length → a.take i = b.take i → L (L16_1 (.sl o 1 (a.map .str)) (.sl o' 1 (b.map .str)) (.int .i64 i) [] 0) := by
      intro m
      induction m with
      | zero =>
        intro i hi he
        apply hL
        simp only [L16_1, l16_1, ex,reduceIte,reduceCtorEq,Nat.reduceEqDiff,Nat.reduceLT,Nat.reduceLeDiff,Nat.reduceAdd,Nat.reduceSub,Nat.reduceMul,Int.reduceAdd,Int.reduceSub,Int.reduceMul,Int.reduceNeg,Int.reduceLE,Int.reduceLT,Int.reduceEq,Int.reduceToNat]
        have h1 : decide ((i : Int) < (a.length : Int)) = false := by simp; omega
        have hab : decide (a = b) = true := by
          rw [List.take_of_length_le (by omega), List.take_of_length_le (by omega)] at he
          simpa using he
        rw [hab]
        (try simp only [h1, ex,reduceIte,reduceCtorEq,Nat.reduceEqDiff,Nat.reduceLT,Nat.reduceLeDiff,Nat.reduceAdd,Nat.reduceSub,Nat.reduceMul,Int.reduceAdd,Int.reduceSub,Int.reduceMul,Int.reduceNeg,Int.reduceLE,Int.reduceLT,Int.reduceEq,Int.reduceToNat]) <;> repeat ((with_reducible refine Req.intro ?_ ?_); (first | omega | (simp <;> omega)); try simp only [h1, ex,reduceIte,reduceCtorEq,Nat.reduceEqDiff,Nat.reduceLT,Nat.reduceLeDiff,Nat.reduceAdd,Nat.reduceSub,Nat.reduceMul,Int.reduceAdd,Int.reduceSub,Int.reduceMul,Int.reduceNeg,Int.reduceLE,Int.reduceLT,Int.reduceEq,Int.reduceToNat])
      | succ m ih =>
        intro i hi he
        have h1 : decide ((i : Int) < (a.length : Int)) = true := by simp; omega
        have g1 : a[i]? = some (a[i]'(by omega)) := List.getElem?_eq_getElem _
        have g2 : b[i]? = some (b[i]'(by omega)) := List.getElem?_eq_getElem _
        generalize hx : a[i]'(by omega) = x at g1
        generalize hy : b[i]'(by omega) = y at g2
        rcases Classical.em (x = y) with e | e
        · have h2 : decide (x = y) = true := by simpa using e
          have h9 := ih (i + 1) (by omega) (by rw [List.take_add_one, List.take_add_one, g1, g2, he, e])
          apply hL
          simp only [L16_1, l16_1, ex,reduceIte,reduceCtorEq,Nat.reduceEqDiff,Nat.reduceLT,Nat.reduceLeDiff,Nat.reduceAdd,Nat.reduceSub,Nat.reduceMul,Int.reduceAdd,Int.reduceSub,Int.reduceMul,Int.reduceNeg,Int.reduceLE,Int.reduceLT,Int.reduceEq,Int.reduceToNat]
          (try simp only [h1, g1, g2, h2, ex,reduceIte,reduceCtorEq,Nat.reduceEqDiff,Nat.reduceLT,Nat.reduceLeDiff,Nat.reduceAdd,Nat.reduceSub,Nat.reduceMul,Int.reduceAdd,Int.reduceSub,Int.reduceMul,Int.reduceNeg,Int.reduceLE,Int.reduceLT,Int.reduceEq,Int.reduceToNat]) <;> repeat ((with_reducible refine Req.intro ?_ ?_); (first | omega | (simp <;> omega)); try simp only [h1, g1, g2, h2, ex,reduceIte,reduceCtorEq,Nat.reduceEqDiff,Nat.reduceLT,Nat.reduceLeDiff,Nat.reduceAdd,Nat.reduceSub,Nat.reduceMul,Int.reduceAdd,Int.reduceSub,Int.reduceMul,Int.reduceNeg,Int.reduceLE,Int.reduceLT,Int.reduceEq,Int.reduceToNat])
          exact h9
        · have h2 : decide (x = y) = false := by simpa using e
          have hab : decide (a = b) = false := by
            have : ¬ a = b := fun q => by
              rw [q, g2] at g1
              injection g1 with g1
              exact e g1.symm
            simpa using this
          apply hL
          simp only [L16_1, l16_1, ex,reduceIte,reduceCtorEq,Nat.reduceEqDiff,Nat.reduceLT,Nat.reduceLeDiff,Nat.reduceAdd,Nat.reduceSub,Nat.reduceMul,Int.reduceAdd,Int.reduceSub,Int.reduceMul,Int.reduceNeg,Int.reduceLE,Int.reduceLT,Int.reduceEq,Int.reduceToNat]
          rw [hab]
          (try simp only [h1, g1, g2, h2, ex,reduceIte,reduceCtorEq,Nat.reduceEqDiff,Nat.reduceLT,Nat.reduceLeDiff,Nat.reduceAdd,Nat.reduceSub,Nat.reduceMul,Int.reduceAdd,Int.reduceSub,Int.reduceMul,Int.reduceNeg,Int.reduceLE,Int.reduceLT,Int.reduceEq,Int.reduceToNat]) <;> repeat ((with_reducible refine Req.intro ?_ ?_); (first | omega | (simp <;> omega)); try simp only [h1, g1, g2, h2, ex,reduceIte,reduceCtorEq,Nat.reduceEqDiff,Nat.reduceLT,Nat.reduceLeDiff,Nat.reduceAdd,Nat.reduceSub,Nat.reduceMul,Int.reduceAdd,Int.reduceSub,Int.reduceMul,Int.reduceNeg,Int.reduceLE,Int.reduceLT,Int.reduceEq,Int.reduceToNat])
    exact key a.length 0 (Nat.zero_add _) (by simp)
  · have h0 : decide ((a.length : Int) = (b.length : Int)) = false := by simp; omega
    have hab : decide (a = b) = false := by
      have : ¬ a = b := fun q => c (by rw [q])
      simpa using this
    rw [hab]
    (try simp only [h0, ex,reduceIte,reduceCtorEq,Nat.reduceEqDiff,Nat.reduceLT,Nat.reduceLeDiff,Nat.reduceAdd,Nat.reduceSub,Nat.reduceMul,Int.reduceAdd,Int.reduceSub,Int.reduceMul,Int.reduceNeg,Int.reduceLE,Int.reduceLT,Int.reduceEq,Int.reduceToNat]) <;> repeat ((with_reducible refine Req.intro ?_ ?_); (first | omega | (simp <;> omega)); try simp only [h0, ex,reduceIte,reduceCtorEq,Nat.reduceEqDiff,Nat.reduceLT,Nat.reduceLeDiff,Nat.reduceAdd,Nat.reduceSub,Nat.reduceMul,Int.reduceAdd,Int.reduceSub,Int.reduceMul,Int.reduceNeg,Int.reduceLE,Int.reduceLT,Int.reduceEq,Int.reduceToNat])
theorem same6_self (o o' : Bool) (a : List Sx) (ha : a.length ≤ 1000000) : Run tab 16 0 [.sl o 1 (a.map .str), .sl o' 1 (a.map .str)] [] 0 (fun r _ _ => r = .bool true) := by
  have := same6_spec o o' a a ha ha
  rw [decide_eq_true (rfl : a = a)] at this
  exact this
theorem sameR_self (o o' : Bool) (rs : List Rg) (hok : OkR rs) : Run tab 11 0 [.sl o 5 (rs.map rgV), .sl o' 5 (rs.map rgV)] [] 0 (fun r _ _ => r = .bool true) := by
  have hl := hok.1
  refine enter (F := f11) rfl rfl ?_
  simp only [f11, ex,reduceIte,reduceCtorEq,Nat.reduceEqDiff,Nat.reduceLT,Nat.reduceLeDiff,Nat.reduceAdd,Nat.reduceSub,Nat.reduceMul,Int.reduceAdd,Int.reduceSub,Int.reduceMul,Int.reduceNeg,Int.reduceLE,Int.reduceLT,Int.reduceEq,Int.reduceToNat]
  have h0 : decide ((rs.length : Int) = (rs.length : Int)) = true := by simp
  (try simp only [h0, ex,reduceIte,reduceCtorEq,Nat.reduceEqDiff,Nat.reduceLT,Nat.reduceLeDiff,Nat.reduceAdd,Nat.reduceSub,Nat.reduceMul,Int.reduceAdd,Int.reduceSub,Int.reduceMul,Int.reduceNeg,Int.reduceLE,Int.reduceLT,Int.reduceEq,Int.reduceToNat]) <;> repeat ((with_reducible refine Req.intro ?_ ?_); (first | omega | (simp <;> omega)); try simp only [h0, ex,reduceIte,reduceCtorEq,Nat.reduceEqDiff,Nat.reduceLT,Nat.reduceLeDiff,Nat.reduceAdd,Nat.reduceSub,Nat.reduceMul,Int.reduceAdd,Int.reduceSub,Int.reduceMul,Int.reduceNeg,Int.reduceLE,Int.reduceLT,Int.reduceEq,Int.reduceToNat])
  refine loopI fun L hL => ?_
  (try simp only [ex,reduceIte,reduceCtorEq,Nat.reduceEqDiff,Nat.reduceLT,Nat.reduceLeDiff,Nat.reduceAdd,Nat.reduceSub,Nat.reduceMul,Int.reduceAdd,Int.reduceSub,Int.reduceMul,Int.reduceNeg,Int.reduceLE,Int.reduceLT,Int.reduceEq,Int.reduceToNat]) <;> repeat ((with_reducible refine Req.intro ?_ ?_); (first | omega | (simp <;> omega)); try simp only [ex,reduceIte,reduceCtorEq,Nat.reduceEqDiff,Nat.reduceLT,Nat.reduceLeDiff,Nat.reduceAdd,Nat.reduceSub,Nat.reduceMul,Int.reduceAdd,Int.reduceSub,Int.reduceMul,Int.reduceNeg,Int.reduceLE,Int.reduceLT,Int.reduceEq,Int.reduceToNat])
  have key : ∀ m i : Nat, i + m = rs.length → L (L11_1 (.sl o 5 (rs.map rgV)) (.sl o' 5 (rs.map rgV)) (.int .i64 i) [] 0) := by
    intro m
    induction m with
    | zero =>
      intro i hi
      have h1 : decide ((i : Int) < (rs.length : Int)) = false := by simp; omega
      apply hL
      simp only [L11_1, l11_1, ex,reduceIte,reduceCtorEq,Nat.reduceEqDiff,Nat.reduceLT,Nat.reduceLeDiff,Nat.reduceAdd,Nat.reduceSub,Nat.reduceMul,Int.reduceAdd,Int.reduceSub,Int.reduceMul,Int.reduceNeg,Int.reduceLE,Int.reduceLT,Int.reduceEq,Int.reduceToNat]
      (try simp only [h1, ex,reduceIte,reduceCtorEq,Nat.reduceEqDiff,Nat.reduceLT,Nat.reduceLeDiff,Nat.reduceAdd,Nat.reduceSub,Nat.reduceMul,Int.reduceAdd,Int.reduceSub,Int.reduceMul,Int.reduceNeg,Int.reduceLE,Int.reduceLT,Int.reduceEq,Int.reduceToNat]) <;> repeat ((with_reducible refine Req.intro ?_ ?_); (first | omega | (simp <;> omega)); try simp only [h1, ex,reduceIte,reduceCtorEq,Nat.reduceEqDiff,Nat.reduceLT,Nat.reduceLeDiff,Nat.reduceAdd,Nat.reduceSub,Nat.reduceMul,Int.reduceAdd,Int.reduceSub,Int.reduceMul,Int.reduceNeg,Int.reduceLE,Int.reduceLT,Int.reduceEq,Int.reduceToNat])
    | succ m ih =>
      intro i hi
      have h1 : decide ((i : Int) < (rs.length : Int)) = true := by simp; omega
      have g1 : rs[i]? = some (rs[i]'(by omega)) := List.getElem?_eq_getElem _
      have hm : rs[i]'(by omega) ∈ rs := List.getElem_mem _
      generalize rs[i]'(by omega) = r at *
      have hr := hok.2 r hm
      have hc : (rgV r).cells = [.int .i64 r.k, .sl false 1 (r.l.map .str), .sl false 1 (r.o.map .str), .sl false 1 (r.b.map .str), .sl false 1 (r.t.map .str)] := rfl
      have d1 : decide (r.k = r.k) = true := by simp
      have h9 := ih (i + 1) (by omega)
      apply hL
      simp only [L11_1, l11_1, ex,reduceIte,reduceCtorEq,Nat.reduceEqDiff,Nat.reduceLT,Nat.reduceLeDiff,Nat.reduceAdd,Nat.reduceSub,Nat.reduceMul,Int.reduceAdd,Int.reduceSub,Int.reduceMul,Int.reduceNeg,Int.reduceLE,Int.reduceLT,Int.reduceEq,Int.reduceToNat]
      (try simp only [h1, g1, hc, d1, ex,reduceIte,reduceCtorEq,Nat.reduceEqDiff,Nat.reduceLT,Nat.reduceLeDiff,Nat.reduceAdd,Nat.reduceSub,Nat.reduceMul,Int.reduceAdd,Int.reduceSub,Int.reduceMul,Int.reduceNeg,Int.reduceLE,Int.reduceLT,Int.reduceEq,Int.reduceToNat]) <;> repeat ((with_reducible refine Req.intro ?_ ?_); (first | omega | (simp <;> omega)); try simp only [h1, g1, hc, d1, ex,reduceIte,reduceCtorEq,Nat.reduceEqDiff,Nat.reduceLT,Nat.reduceLeDiff,Nat.reduceAdd,Nat.reduceSub,Nat.reduceMul,Int.reduceAdd,Int.reduceSub,Int.reduceMul,Int.reduceNeg,Int.reduceLE,Int.reduceLT,Int.reduceEq,Int.reduceToNat])
      refine CallA.eq rfl (same6_self _ _ r.l (by omega)) rfl ?_
      (try simp only [ex,reduceIte,reduceCtorEq,Nat.reduceEqDiff,Nat.reduceLT,Nat.reduceLeDiff,Nat.reduceAdd,Nat.reduceSub,Nat.reduceMul,Int.reduceAdd,Int.reduceSub,Int.reduceMul,Int.reduceNeg,Int.reduceLE,Int.reduceLT,Int.reduceEq,Int.reduceToNat]) <;> repeat ((with_reducible refine Req.intro ?_ ?_); (first | omega | (simp <;> omega)); try simp only [ex,reduceIte,reduceCtorEq,Nat.reduceEqDiff,Nat.reduceLT,Nat.reduceLeDiff,Nat.reduceAdd,Nat.reduceSub,Nat.reduceMul,Int.reduceAdd,Int.reduceSub,Int.reduceMul,Int.reduceNeg,Int.reduceLE,Int.reduceLT,Int.reduceEq,Int.reduceToNat])
      refine CallA.eq rfl (same6_self _ _ r.o (by omega)) rfl ?_
      (try simp only [ex,reduceIte,reduceCtorEq,Nat.reduceEqDiff,Nat.reduceLT,Nat.reduceLeDiff,Nat.reduceAdd,Nat.reduceSub,Nat.reduceMul,Int.reduceAdd,Int.reduceSub,Int.reduceMul,Int.reduceNeg,Int.reduceLE,Int.reduceLT,Int.reduceEq,Int.reduceToNat]) <;> repeat ((with_reducible refine Req.intro ?_ ?_); (first | omega | (simp <;> omega)); try simp only [ex,reduceIte,reduceCtorEq,Nat.reduceEqDiff,Nat.reduceLT,Nat.reduceLeDiff,Nat.reduceAdd,Nat.reduceSub,Nat.reduceMul,Int.reduceAdd,Int.reduceSub,Int.reduceMul,Int.reduceNeg,Int.reduceLE,Int.reduceLT,Int.reduceEq,Int.reduceToNat])
      refine CallA.eq rfl (same6_self _ _ r.b (by omega)) rfl ?_
      (try simp only [ex,reduceIte,reduceCtorEq,Nat.reduceEqDiff,Nat.reduceLT,Nat.reduceLeDiff,Nat.reduceAdd,Nat.reduceSub,Nat.reduceMul,Int.reduceAdd,Int.reduceSub,Int.reduceMul,Int.reduceNeg,Int.reduceLE,Int.reduceLT,Int.reduceEq,Int.reduceToNat]) <;> repeat ((with_reducible refine Req.intro ?_ ?_); (first | omega | (simp <;> omega)); try simp only [ex,reduceIte,reduceCtorEq,Nat.reduceEqDiff,Nat.reduceLT,Nat.reduceLeDiff,Nat.reduceAdd,Nat.reduceSub,Nat.reduceMul,Int.reduceAdd,Int.reduceSub,Int.reduceMul,Int.reduceNeg,Int.reduceLE,Int.reduceLT,Int.reduceEq,Int.reduceToNat])
      refine CallA.eq rfl (same6_self _ _ r.t (by omega)) rfl ?_
      (try simp only [ex,reduceIte,reduceCtorEq,Nat.reduceEqDiff,Nat.reduceLT,Nat.reduceLeDiff,Nat.reduceAdd,Nat.reduceSub,Nat.reduceMul,Int.reduceAdd,Int.reduceSub,Int.reduceMul,Int.reduceNeg,Int.reduceLE,Int.reduceLT,Int.reduceEq,Int.reduceToNat]) <;> repeat ((with_reducible refine Req.intro ?_ ?_); (first | omega | (simp <;> omega)); try simp only [ex,reduceIte,reduceCtorEq,Nat.reduceEqDiff,Nat.reduceLT,Nat.reduceLeDiff,Nat.reduceAdd,Nat.reduceSub,Nat.reduceMul,Int.reduceAdd,Int.reduceSub,Int.reduceMul,Int.reduceNeg,Int.reduceLE,Int.reduceLT,Int.reduceEq,Int.reduceToNat])
      exact h9
  exact key rs.length 0 (Nat.zero_add _)
def fewR (r : Rg) : Bool := (decide (r.k = 1) || decide (r.k = 2)) && small r.l && small r.o && small r.b && small r.t
def few (rs : List Rg) : Bool := decide (rs.length ≤ 30) && rs.all fewR
theorem small_len {a : List Sx} (h : small a = true) : a.length ≤ 60 ∧ ∀ s ∈ a, s.length ≤ 200 := by
  unfold small at h
  rw [Bool.and_eq_true, List.all_eq_true] at h
  exact ⟨by simpa using h.1, fun s hs => by simpa using h.2 s hs⟩
theorem few_ok {rs : List Rg} (h : few rs = true) : OkR rs := by
  unfold few at h
  rw [Bool.and_eq_true, List.all_eq_true] at h
  have hl : rs.length ≤ 30 := by simpa using h.1
  refine ⟨by omega, fun r hr => ?_⟩
  have := h.2 r hr
  unfold fewR at this
  simp only [Bool.and_eq_true] at this
  have a1 := (small_len this.1.1.1.2).1
  have a2 := (small_len this.1.1.2).1
  have a3 := (small_len this.1.2).1
  have a4 := (small_len this.2).1
  omega
theorem few_spec (o : Bool) (rs : List Rg) (hl : rs.length ≤ 17592186044416) (hg : ∀ r ∈ rs, r.l.length ≤ 17592186044416 ∧ r.o.length ≤ 17592186044416 ∧ r.b.length ≤ 17592186044416 ∧ r.t.length ≤ 17592186044416) :
    Run tab 15 0 [.sl o 5 (rs.map rgV)] [] 0 (fun r _ _ => r = .bool (few rs)) := by
  refine enter (F := f15) rfl rfl ?_
  simp only [f15, ex,reduceIte,reduceCtorEq,Nat.reduceEqDiff,Nat.reduceLT,Nat.reduceLeDiff,Nat.reduceAdd,Nat.reduceSub,Nat.reduceMul,Int.reduceAdd,Int.reduceSub,Int.reduceMul,Int.reduceNeg,Int.reduceLE,Int.reduceLT,Int.reduceEq,Int.reduceToNat]
  rcases Classical.em (rs.length ≤ 30) with c | c
  · have h0 : decide ((rs.length : Int) > 30) = false := by simp; omega
    (try simp only [h0, ex,reduceIte,reduceCtorEq,Nat.reduceEqDiff,Nat.reduceLT,Nat.reduceLeDiff,Nat.reduceAdd,Nat.reduceSub,Nat.reduceMul,Int.reduceAdd,Int.reduceSub,Int.reduceMul,Int.reduceNeg,Int.reduceLE,Int.reduceLT,Int.reduceEq,Int.reduceToNat]) <;> repeat ((with_reducible refine Req.intro ?_ ?_); (first | omega | (simp <;> omega)); try simp only [h0, ex,reduceIte,reduceCtorEq,Nat.reduceEqDiff,Nat.reduceLT,Nat.reduceLeDiff,Nat.reduceAdd,Nat.reduceSub,Nat.reduceMul,Int.reduceAdd,Int.reduceSub,Int.reduceMul,Int.reduceNeg,Int.reduceLE,Int.reduceLT,Int.reduceEq,Int.reduceToNat])
    refine loopI fun L hL => ?_
    (try simp only [ex,reduceIte,reduceCtorEq,Nat.reduceEqDiff,Nat.reduceLT,Nat.reduceLeDiff,Nat.reduceAdd,Nat.reduceSub,Nat.reduceMul,Int.reduceAdd,Int.reduceSub,Int.reduceMul,Int.reduceNeg,Int.reduceLE,Int.reduceLT,Int.reduceEq,Int.reduceToNat]) <;> repeat ((with_reducible refine Req.intro ?_ ?_); (first | omega | (simp <;> omega)); try simp only [ex,reduceIte,reduceCtorEq,Nat.reduceEqDiff,Nat.reduceLT,Nat.reduceLeDiff,Nat.reduceAdd,Nat.reduceSub,Nat.reduceMul,Int.reduceAdd,Int.reduceSub,Int.reduceMul,Int.reduceNeg,Int.reduceLE,Int.reduceLT,Int.reduceEq,Int.reduceToNat])
    have hf : few rs = rs.all fewR := by unfold few; rw [decide_eq_true c]; rfl
    have key : ∀ m i : Nat, i + m = rs.length → (rs.take i).all fewR = true → L (L15_1 (.sl o 5 (rs.map rgV)) (.int .i64 i) [] 0) := by
      intro m
      induction m with
      | zero =>
        intro i hi ha
        have h1 : decide ((i : Int) < (rs.length : Int)) = false := by simp; omega
        rw [List.take_of_length_le (by omega)] at ha
        apply hL
        simp only [L15_1, l15_1, ex,reduceIte,reduceCtorEq,Nat.reduceEqDiff,Nat.reduceLT,Nat.reduceLeDiff,Nat.reduceAdd,Nat.reduceSub,Nat.reduceMul,Int.reduceAdd,Int.reduceSub,Int.reduceMul,Int.reduceNeg,Int.reduceLE,Int.reduceLT,Int.reduceEq,Int.reduceToNat]
        (try simp only [h1, ex,reduceIte,reduceCtorEq,Nat.reduceEqDiff,Nat.reduceLT,Nat.reduceLeDiff,Nat.reduceAdd,Nat.reduceSub,Nat.reduceMul,Int.reduceAdd,Int.reduceSub,Int.reduceMul,Int.reduceNeg,Int.reduceLE,Int.reduceLT,Int.reduceEq,Int.reduceToNat]) <;> repeat ((with_reducible refine Req.intro ?_ ?_); (first | omega | (simp <;> omega)); try simp only [h1, ex,reduceIte,reduceCtorEq,Nat.reduceEqDiff,Nat.reduceLT,Nat.reduceLeDiff,Nat.reduceAdd,Nat.reduceSub,Nat.reduceMul,Int.reduceAdd,Int.reduceSub,Int.reduceMul,Int.reduceNeg,Int.reduceLE,Int.reduceLT,Int.reduceEq,Int.reduceToNat])
        rw [hf, ha]
      | succ m ih =>
        intro i hi ha
        have h1 : decide ((i : Int) < (rs.length : Int)) = true := by simp; omega
        have g1 : rs[i]? = some (rs[i]'(by omega)) := List.getElem?_eq_getElem _
        have ht : rs.take (i + 1) = rs.take i ++ [rs[i]'(by omega)] := by rw [List.take_add_one, g1]; rfl
        have hm : rs[i]'(by omega) ∈ rs := List.getElem_mem _
        generalize rs[i]'(by omega) = r at *
        have hr := hg r hm
        have hc : (rgV r).cells = [.int .i64 r.k, .sl false 1 (r.l.map .str), .sl false 1 (r.o.map .str), .sl false 1 (r.b.map .str), .sl false 1 (r.t.map .str)] := rfl
        have h9 : fewR r = true → L (L15_1 (.sl o 5 (rs.map rgV)) (.int .i64 ((i : Int) + 1)) [] 0) := fun q => ih (i + 1) (by omega) (by rw [ht, List.all_append, ha]; simp [q])
        have hno : fewR r = false → few rs = false := fun q => by
          rw [hf]
          exact List.all_eq_false.2 ⟨r, hm, by rw [q]; simp⟩
        rcases Classical.em (r.k = 1) with e | e
        · have d1 : decide (r.k = 1) = true := by simpa using e
          have hfr : fewR r = (small r.l && small r.o && small r.b && small r.t) := by simp [fewR, e]
          rw [hfr] at h9 hno
          apply hL
          simp only [L15_1, l15_1, ex,reduceIte,reduceCtorEq,Nat.reduceEqDiff,Nat.reduceLT,Nat.reduceLeDiff,Nat.reduceAdd,Nat.reduceSub,Nat.reduceMul,Int.reduceAdd,Int.reduceSub,Int.reduceMul,Int.reduceNeg,Int.reduceLE,Int.reduceLT,Int.reduceEq,Int.reduceToNat]
          (try simp only [h1, g1, hc, d1, ex,reduceIte,reduceCtorEq,Nat.reduceEqDiff,Nat.reduceLT,Nat.reduceLeDiff,Nat.reduceAdd,Nat.reduceSub,Nat.reduceMul,Int.reduceAdd,Int.reduceSub,Int.reduceMul,Int.reduceNeg,Int.reduceLE,Int.reduceLT,Int.reduceEq,Int.reduceToNat]) <;> repeat ((with_reducible refine Req.intro ?_ ?_); (first | omega | (simp <;> omega)); try simp only [h1, g1, hc, d1, ex,reduceIte,reduceCtorEq,Nat.reduceEqDiff,Nat.reduceLT,Nat.reduceLeDiff,Nat.reduceAdd,Nat.reduceSub,Nat.reduceMul,Int.reduceAdd,Int.reduceSub,Int.reduceMul,Int.reduceNeg,Int.reduceLE,Int.reduceLT,Int.reduceEq,Int.reduceToNat])
          refine CallA.eq rfl (small_spec _ r.l hr.1) rfl ?_
          cases s1 : small r.l with
          | false =>
            (try simp only [ex,reduceIte,reduceCtorEq,Nat.reduceEqDiff,Nat.reduceLT,Nat.reduceLeDiff,Nat.reduceAdd,Nat.reduceSub,Nat.reduceMul,Int.reduceAdd,Int.reduceSub,Int.reduceMul,Int.reduceNeg,Int.reduceLE,Int.reduceLT,Int.reduceEq,Int.reduceToNat]) <;> repeat ((with_reducible refine Req.intro ?_ ?_); (first | omega | (simp <;> omega)); try simp only [ex,reduceIte,reduceCtorEq,Nat.reduceEqDiff,Nat.reduceLT,Nat.reduceLeDiff,Nat.reduceAdd,Nat.reduceSub,Nat.reduceMul,Int.reduceAdd,Int.reduceSub,Int.reduceMul,Int.reduceNeg,Int.reduceLE,Int.reduceLT,Int.reduceEq,Int.reduceToNat])
            rw [hno (by rw [s1]; rfl)]
          | true =>
            (try simp only [g1, hc, ex,reduceIte,reduceCtorEq,Nat.reduceEqDiff,Nat.reduceLT,Nat.reduceLeDiff,Nat.reduceAdd,Nat.reduceSub,Nat.reduceMul,Int.reduceAdd,Int.reduceSub,Int.reduceMul,Int.reduceNeg,Int.reduceLE,Int.reduceLT,Int.reduceEq,Int.reduceToNat]) <;> repeat ((with_reducible refine Req.intro ?_ ?_); (first | omega | (simp <;> omega)); try simp only [g1, hc, ex,reduceIte,reduceCtorEq,Nat.reduceEqDiff,Nat.reduceLT,Nat.reduceLeDiff,Nat.reduceAdd,Nat.reduceSub,Nat.reduceMul,Int.reduceAdd,Int.reduceSub,Int.reduceMul,Int.reduceNeg,Int.reduceLE,Int.reduceLT,Int.reduceEq,Int.reduceToNat])
            refine CallA.eq rfl (small_spec _ r.o hr.2.1) rfl ?_
            cases s2 : small r.o with
            | false =>
              (try simp only [ex,reduceIte,reduceCtorEq,Nat.reduceEqDiff,Nat.reduceLT,Nat.reduceLeDiff,Nat.reduceAdd,Nat.reduceSub,Nat.reduceMul,Int.reduceAdd,Int.reduceSub,Int.reduceMul,Int.reduceNeg,Int.reduceLE,Int.reduceLT,Int.reduceEq,Int.reduceToNat]) <;> repeat ((with_reducible refine Req.intro ?_ ?_); (first | omega | (simp <;> omega)); try simp only [ex,reduceIte,reduceCtorEq,Nat.reduceEqDiff,Nat.reduceLT,Nat.reduceLeDiff,Nat.reduceAdd,Nat.reduceSub,Nat.reduceMul,Int.reduceAdd,Int.reduceSub,Int.reduceMul,Int.reduceNeg,Int.reduceLE,Int.reduceLT,Int.reduceEq,Int.reduceToNat])
              rw [hno (by rw [s1, s2]; rfl)]
            | true =>
              (try simp only [g1, hc, ex,reduceIte,reduceCtorEq,Nat.reduceEqDiff,Nat.reduceLT,Nat.reduceLeDiff,Nat.reduceAdd,Nat.reduceSub,Nat.reduceMul,Int.reduceAdd,Int.reduceSub,Int.reduceMul,Int.reduceNeg,Int.reduceLE,Int.reduceLT,Int.reduceEq,Int.reduceToNat]) <;> repeat ((with_reducible refine Req.intro ?_ ?_); (first | omega | (simp <;> omega)); try simp only [g1, hc, ex,reduceIte,reduceCtorEq,Nat.reduceEqDiff,Nat.reduceLT,Nat.reduceLeDiff,Nat.reduceAdd,Nat.reduceSub,Nat.reduceMul,Int.reduceAdd,Int.reduceSub,Int.reduceMul,Int.reduceNeg,Int.reduceLE,Int.reduceLT,Int.reduceEq,Int.reduceToNat])
              refine CallA.eq rfl (small_spec _ r.b hr.2.2.1) rfl ?_
              cases s3 : small r.b with
              | false =>
                (try simp only [ex,reduceIte,reduceCtorEq,Nat.reduceEqDiff,Nat.reduceLT,Nat.reduceLeDiff,Nat.reduceAdd,Nat.reduceSub,Nat.reduceMul,Int.reduceAdd,Int.reduceSub,Int.reduceMul,Int.reduceNeg,Int.reduceLE,Int.reduceLT,Int.reduceEq,Int.reduceToNat]) <;> repeat ((with_reducible refine Req.intro ?_ ?_); (first | omega | (simp <;> omega)); try simp only [ex,reduceIte,reduceCtorEq,Nat.reduceEqDiff,Nat.reduceLT,Nat.reduceLeDiff,Nat.reduceAdd,Nat.reduceSub,Nat.reduceMul,Int.reduceAdd,Int.reduceSub,Int.reduceMul,Int.reduceNeg,Int.reduceLE,Int.reduceLT,Int.reduceEq,Int.reduceToNat])
                rw [hno (by rw [s1, s2, s3]; rfl)]
              | true =>
                (try simp only [g1, hc, ex,reduceIte,reduceCtorEq,Nat.reduceEqDiff,Nat.reduceLT,Nat.reduceLeDiff,Nat.reduceAdd,Nat.reduceSub,Nat.reduceMul,Int.reduceAdd,Int.reduceSub,Int.reduceMul,Int.reduceNeg,Int.reduceLE,Int.reduceLT,Int.reduceEq,Int.reduceToNat]) <;> repeat ((with_reducible refine Req.intro ?_ ?_); (first | omega | (simp <;> omega)); try simp only [g1, hc, ex,reduceIte,reduceCtorEq,Nat.reduceEqDiff,Nat.reduceLT,Nat.reduceLeDiff,Nat.reduceAdd,Nat.reduceSub,Nat.reduceMul,Int.reduceAdd,Int.reduceSub,Int.reduceMul,Int.reduceNeg,Int.reduceLE,Int.reduceLT,Int.reduceEq,Int.reduceToNat])
                refine CallA.eq rfl (small_spec _ r.t hr.2.2.2) rfl ?_
                cases s4 : small r.t with
                | false =>
                  (try simp only [ex,reduceIte,reduceCtorEq,Nat.reduceEqDiff,Nat.reduceLT,Nat.reduceLeDiff,Nat.reduceAdd,Nat.reduceSub,Nat.reduceMul,Int.reduceAdd,Int.reduceSub,Int.reduceMul,Int.reduceNeg,Int.reduceLE,Int.reduceLT,Int.reduceEq,Int.reduceToNat]) <;> repeat ((with_reducible refine Req.intro ?_ ?_); (first | omega | (simp <;> omega)); try simp only [ex,reduceIte,reduceCtorEq,Nat.reduceEqDiff,Nat.reduceLT,Nat.reduceLeDiff,Nat.reduceAdd,Nat.reduceSub,Nat.reduceMul,Int.reduceAdd,Int.reduceSub,Int.reduceMul,Int.reduceNeg,Int.reduceLE,Int.reduceLT,Int.reduceEq,Int.reduceToNat])
                  rw [hno (by rw [s1, s2, s3, s4]; rfl)]
                | true =>
                  (try simp only [ex,reduceIte,reduceCtorEq,Nat.reduceEqDiff,Nat.reduceLT,Nat.reduceLeDiff,Nat.reduceAdd,Nat.reduceSub,Nat.reduceMul,Int.reduceAdd,Int.reduceSub,Int.reduceMul,Int.reduceNeg,Int.reduceLE,Int.reduceLT,Int.reduceEq,Int.reduceToNat]) <;> repeat ((with_reducible refine Req.intro ?_ ?_); (first | omega | (simp <;> omega)); try simp only [ex,reduceIte,reduceCtorEq,Nat.reduceEqDiff,Nat.reduceLT,Nat.reduceLeDiff,Nat.reduceAdd,Nat.reduceSub,Nat.reduceMul,Int.reduceAdd,Int.reduceSub,Int.reduceMul,Int.reduceNeg,Int.reduceLE,Int.reduceLT,Int.reduceEq,Int.reduceToNat])
                  exact h9 (by rw [s1, s2, s3, s4]; rfl)
        · rcases Classical.em (r.k = 2) with e2 | e2
          · have d1 : decide (r.k = 1) = false := by simpa using e
            have d2 : decide (r.k = 2) = true := by simpa using e2
            have hfr : fewR r = (small r.l && small r.o && small r.b && small r.t) := by simp [fewR, e2]
            rw [hfr] at h9 hno
            apply hL
            simp only [L15_1, l15_1, ex,reduceIte,reduceCtorEq,Nat.reduceEqDiff,Nat.reduceLT,Nat.reduceLeDiff,Nat.reduceAdd,Nat.reduceSub,Nat.reduceMul,Int.reduceAdd,Int.reduceSub,Int.reduceMul,Int.reduceNeg,Int.reduceLE,Int.reduceLT,Int.reduceEq,Int.reduceToNat]
            (try simp only [h1, g1, hc, d1, d2, ex,reduceIte,reduceCtorEq,Nat.reduceEqDiff,Nat.reduceLT,Nat.reduceLeDiff,Nat.reduceAdd,Nat.reduceSub,Nat.reduceMul,Int.reduceAdd,Int.reduceSub,Int.reduceMul,Int.reduceNeg,Int.reduceLE,Int.reduceLT,Int.reduceEq,Int.reduceToNat]) <;> repeat ((with_reducible refine Req.intro ?_ ?_); (first | omega | (simp <;> omega)); try simp only [h1, g1, hc, d1, d2, ex,reduceIte,reduceCtorEq,Nat.reduceEqDiff,Nat.reduceLT,Nat.reduceLeDiff,Nat.reduceAdd,Nat.reduceSub,Nat.reduceMul,Int.reduceAdd,Int.reduceSub,Int.reduceMul,Int.reduceNeg,Int.reduceLE,Int.reduceLT,Int.reduceEq,Int.reduceToNat])
            refine CallA.eq rfl (small_spec _ r.l hr.1) rfl ?_
            cases s1 : small r.l with
            | false =>
              (try simp only [ex,reduceIte,reduceCtorEq,Nat.reduceEqDiff,Nat.reduceLT,Nat.reduceLeDiff,Nat.reduceAdd,Nat.reduceSub,Nat.reduceMul,Int.reduceAdd,Int.reduceSub,Int.reduceMul,Int.reduceNeg,Int.reduceLE,Int.reduceLT,Int.reduceEq,Int.reduceToNat]) <;> repeat ((with_reducible refine Req.intro ?_ ?_); (first | omega | (simp <;> omega)); try simp only [ex,reduceIte,reduceCtorEq,Nat.reduceEqDiff,Nat.reduceLT,Nat.reduceLeDiff,Nat.reduceAdd,Nat.reduceSub,Nat.reduceMul,Int.reduceAdd,Int.reduceSub,Int.reduceMul,Int.reduceNeg,Int.reduceLE,Int.reduceLT,Int.reduceEq,Int.reduceToNat])
              rw [hno (by rw [s1]; rfl)]
            | true =>
              (try simp only [g1, hc, ex,reduceIte,reduceCtorEq,Nat.reduceEqDiff,Nat.reduceLT,Nat.reduceLeDiff,Nat.reduceAdd,Nat.reduceSub,Nat.reduceMul,Int.reduceAdd,Int.reduceSub,Int.reduceMul,Int.reduceNeg,Int.reduceLE,Int.reduceLT,Int.reduceEq,Int.reduceToNat]) <;> repeat ((with_reducible refine Req.intro ?_ ?_); (first | omega | (simp <;> omega)); try simp only [g1, hc, ex,reduceIte,reduceCtorEq,Nat.reduceEqDiff,Nat.reduceLT,Nat.reduceLeDiff,Nat.reduceAdd,Nat.reduceSub,Nat.reduceMul,Int.reduceAdd,Int.reduceSub,Int.reduceMul,Int.reduceNeg,Int.reduceLE,Int.reduceLT,Int.reduceEq,Int.reduceToNat])
              refine CallA.eq rfl (small_spec _ r.o hr.2.1) rfl ?_
              cases s2 : small r.o with
              | false =>
                (try simp only [ex,reduceIte,reduceCtorEq,Nat.reduceEqDiff,Nat.reduceLT,Nat.reduceLeDiff,Nat.reduceAdd,Nat.reduceSub,Nat.reduceMul,Int.reduceAdd,Int.reduceSub,Int.reduceMul,Int.reduceNeg,Int.reduceLE,Int.reduceLT,Int.reduceEq,Int.reduceToNat]) <;> repeat ((with_reducible refine Req.intro ?_ ?_); (first | omega | (simp <;> omega)); try simp only [ex,reduceIte,reduceCtorEq,Nat.reduceEqDiff,Nat.reduceLT,Nat.reduceLeDiff,Nat.reduceAdd,Nat.reduceSub,Nat.reduceMul,Int.reduceAdd,Int.reduceSub,Int.reduceMul,Int.reduceNeg,Int.reduceLE,Int.reduceLT,Int.reduceEq,Int.reduceToNat])
                rw [hno (by rw [s1, s2]; rfl)]
              | true =>
                (try simp only [g1, hc, ex,reduceIte,reduceCtorEq,Nat.reduceEqDiff,Nat.reduceLT,Nat.reduceLeDiff,Nat.reduceAdd,Nat.reduceSub,Nat.reduceMul,Int.reduceAdd,Int.reduceSub,Int.reduceMul,Int.reduceNeg,Int.reduceLE,Int.reduceLT,Int.reduceEq,Int.reduceToNat]) <;> repeat ((with_reducible refine Req.intro ?_ ?_); (first | omega | (simp <;> omega)); try simp only [g1, hc, ex,reduceIte,reduceCtorEq,Nat.reduceEqDiff,Nat.reduceLT,Nat.reduceLeDiff,Nat.reduceAdd,Nat.reduceSub,Nat.reduceMul,Int.reduceAdd,Int.reduceSub,Int.reduceMul,Int.reduceNeg,Int.reduceLE,Int.reduceLT,Int.reduceEq,Int.reduceToNat])
                refine CallA.eq rfl (small_spec _ r.b hr.2.2.1) rfl ?_
                cases s3 : small r.b with
                | false =>
                  (try simp only [ex,reduceIte,reduceCtorEq,Nat.reduceEqDiff,Nat.reduceLT,Nat.reduceLeDiff,Nat.reduceAdd,Nat.reduceSub,Nat.reduceMul,Int.reduceAdd,Int.reduceSub,Int.reduceMul,Int.reduceNeg,Int.reduceLE,Int.reduceLT,Int.reduceEq,Int.reduceToNat]) <;> repeat ((with_reducible refine Req.intro ?_ ?_); (first | omega | (simp <;> omega)); try simp only [ex,reduceIte,reduceCtorEq,Nat.reduceEqDiff,Nat.reduceLT,Nat.reduceLeDiff,Nat.reduceAdd,Nat.reduceSub,Nat.reduceMul,Int.reduceAdd,Int.reduceSub,Int.reduceMul,Int.reduceNeg,Int.reduceLE,Int.reduceLT,Int.reduceEq,Int.reduceToNat])
                  rw [hno (by rw [s1, s2, s3]; rfl)]
                | true =>
                  (try simp only [g1, hc, ex,reduceIte,reduceCtorEq,Nat.reduceEqDiff,Nat.reduceLT,Nat.reduceLeDiff,Nat.reduceAdd,Nat.reduceSub,Nat.reduceMul,Int.reduceAdd,Int.reduceSub,Int.reduceMul,Int.reduceNeg,Int.reduceLE,Int.reduceLT,Int.reduceEq,Int.reduceToNat]) <;> repeat ((with_reducible refine Req.intro ?_ ?_); (first | omega | (simp <;> omega)); try simp only [g1, hc, ex,reduceIte,reduceCtorEq,Nat.reduceEqDiff,Nat.reduceLT,Nat.reduceLeDiff,Nat.reduceAdd,Nat.reduceSub,Nat.reduceMul,Int.reduceAdd,Int.reduceSub,Int.reduceMul,Int.reduceNeg,Int.reduceLE,Int.reduceLT,Int.reduceEq,Int.reduceToNat])
                  refine CallA.eq rfl (small_spec _ r.t hr.2.2.2) rfl ?_
                  cases s4 : small r.t with
                  | false =>
                    (try simp only [ex,reduceIte,reduceCtorEq,Nat.reduceEqDiff,Nat.reduceLT,Nat.reduceLeDiff,Nat.reduceAdd,Nat.reduceSub,Nat.reduceMul,Int.reduceAdd,Int.reduceSub,Int.reduceMul,Int.reduceNeg,Int.reduceLE,Int.reduceLT,Int.reduceEq,Int.reduceToNat]) <;> repeat ((with_reducible refine Req.intro ?_ ?_); (first | omega | (simp <;> omega)); try simp only [ex,reduceIte,reduceCtorEq,Nat.reduceEqDiff,Nat.reduceLT,Nat.reduceLeDiff,Nat.reduceAdd,Nat.reduceSub,Nat.reduceMul,Int.reduceAdd,Int.reduceSub,Int.reduceMul,Int.reduceNeg,Int.reduceLE,Int.reduceLT,Int.reduceEq,Int.reduceToNat])
                    rw [hno (by rw [s1, s2, s3, s4]; rfl)]
                  | true =>
                    (try simp only [ex,reduceIte,reduceCtorEq,Nat.reduceEqDiff,Nat.reduceLT,Nat.reduceLeDiff,Nat.reduceAdd,Nat.reduceSub,Nat.reduceMul,Int.reduceAdd,Int.reduceSub,Int.reduceMul,Int.reduceNeg,Int.reduceLE,Int.reduceLT,Int.reduceEq,Int.reduceToNat]) <;> repeat ((with_reducible refine Req.intro ?_ ?_); (first | omega | (simp <;> omega)); try simp only [ex,reduceIte,reduceCtorEq,Nat.reduceEqDiff,Nat.reduceLT,Nat.reduceLeDiff,Nat.reduceAdd,Nat.reduceSub,Nat.reduceMul,Int.reduceAdd,Int.reduceSub,Int.reduceMul,Int.reduceNeg,Int.reduceLE,Int.reduceLT,Int.reduceEq,Int.reduceToNat])
                    exact h9 (by rw [s1, s2, s3, s4]; rfl)
          · have d1 : decide (r.k = 1) = false := by simpa using e
            have d2 : decide (r.k = 2) = false := by simpa using e2
            apply hL
            simp only [L15_1, l15_1, ex,reduceIte,reduceCtorEq,Nat.reduceEqDiff,Nat.reduceLT,Nat.reduceLeDiff,Nat.reduceAdd,Nat.reduceSub,Nat.reduceMul,Int.reduceAdd,Int.reduceSub,Int.reduceMul,Int.reduceNeg,Int.reduceLE,Int.reduceLT,Int.reduceEq,Int.reduceToNat]
            (try simp only [h1, g1, hc, d1, d2, ex,reduceIte,reduceCtorEq,Nat.reduceEqDiff,Nat.reduceLT,Nat.reduceLeDiff,Nat.reduceAdd,Nat.reduceSub,Nat.reduceMul,Int.reduceAdd,Int.reduceSub,Int.reduceMul,Int.reduceNeg,Int.reduceLE,Int.reduceLT,Int.reduceEq,Int.reduceToNat]) <;> repeat ((with_reducible refine Req.intro ?_ ?_); (first | omega | (simp <;> omega)); try simp only [h1, g1, hc, d1, d2, ex,reduceIte,reduceCtorEq,Nat.reduceEqDiff,Nat.reduceLT,Nat.reduceLeDiff,Nat.reduceAdd,Nat.reduceSub,Nat.reduceMul,Int.reduceAdd,Int.reduceSub,Int.reduceMul,Int.reduceNeg,Int.reduceLE,Int.reduceLT,Int.reduceEq,Int.reduceToNat])
            rw [hno (by simp [fewR, e, e2])]
    exact key rs.length 0 (Nat.zero_add _) rfl
  · have h0 : decide ((rs.length : Int) > 30) = true := by simp; omega
    have hf : few rs = false := by unfold few; rw [decide_eq_false c]; rfl
    rw [hf]
    (try simp only [h0, ex,reduceIte,reduceCtorEq,Nat.reduceEqDiff,Nat.reduceLT,Nat.reduceLeDiff,Nat.reduceAdd,Nat.reduceSub,Nat.reduceMul,Int.reduceAdd,Int.reduceSub,Int.reduceMul,Int.reduceNeg,Int.reduceLE,Int.reduceLT,Int.reduceEq,Int.reduceToNat]) <;> repeat ((with_reducible refine Req.intro ?_ ?_); (first | omega | (simp <;> omega)); try simp only [h0, ex,reduceIte,reduceCtorEq,Nat.reduceEqDiff,Nat.reduceLT,Nat.reduceLeDiff,Nat.reduceAdd,Nat.reduceSub,Nat.reduceMul,Int.reduceAdd,Int.reduceSub,Int.reduceMul,Int.reduceNeg,Int.reduceLE,Int.reduceLT,Int.reduceEq,Int.reduceToNat])
end Go.Proofs.Ytnodepfoahmcmaa.E.Hs

/- Chapter 12: Mark of both. Conditions: none. -/
namespace Go.Proofs.Ytnodepfoahmcmaa.E.Hs
set_option linter.unusedVariables false
set_option linter.unusedSimpArgs false
set_option maxHeartbeats 20000000
set_option maxRecDepth 100000

/-- Does a line end with a line feed? -/
def ends (s : Sx) : Bool := decide (s.getLast? = some 10)
theorem ends_nil : ends [] = false := rfl
theorem ends_snoc (s : Sx) (c : UInt8) : ends (s ++ [c]) = decide (c = 10) := by simp [ends]
def enL (s : Sx) : Sx := if ends s then s else s ++ [10]
def ended (l : List Sx) : Sx := l.flatMap enL
def layT (e : Bool) (l : List Sx) : Sx := if e then ended l else l.flatten
theorem hasSuf0_spec (s : Sx) (hs : s.length ≤ 1000000) : Run tab 55 0 [.str s, .str [10]] [] 0 (fun r _ _ => r = .bool (ends s)) := by
  rcases List.eq_nil_or_concat s with e | ⟨t, c, e⟩
  · subst e
    refine enter (F := f55) rfl rfl ?_
    simp only [f55, ex,reduceIte,reduceCtorEq,Nat.reduceEqDiff,Nat.reduceLT,Nat.reduceLeDiff,Nat.reduceAdd,Nat.reduceSub,Nat.reduceMul,Int.reduceAdd,Int.reduceSub,Int.reduceMul,Int.reduceNeg,Int.reduceLE,Int.reduceLT,Int.reduceEq,Int.reduceToNat]
    have h0 : decide (((0 : Nat) : Int) ≥ ((1 : Nat) : Int)) = false := by decide
    (try simp only [h0, ends_nil, ex,reduceIte,reduceCtorEq,Nat.reduceEqDiff,Nat.reduceLT,Nat.reduceLeDiff,Nat.reduceAdd,Nat.reduceSub,Nat.reduceMul,Int.reduceAdd,Int.reduceSub,Int.reduceMul,Int.reduceNeg,Int.reduceLE,Int.reduceLT,Int.reduceEq,Int.reduceToNat]) <;> repeat ((with_reducible refine Req.intro ?_ ?_); (first | omega | (simp <;> omega)); try simp only [h0, ends_nil, ex,reduceIte,reduceCtorEq,Nat.reduceEqDiff,Nat.reduceLT,Nat.reduceLeDiff,Nat.reduceAdd,Nat.reduceSub,Nat.reduceMul,Int.reduceAdd,Int.reduceSub,Int.reduceMul,Int.reduceNeg,Int.reduceLE,Int.reduceLT,Int.reduceEq,Int.reduceToNat])
  · rw [List.concat_eq_append] at e
    subst e
    rw [List.length_append, List.length_singleton] at hs
    have hl : (t ++ [c]).length = t.length + 1 := by simp
    have h0 : decide ((((t ++ [c]).length : Nat) : Int) ≥ ((1 : Nat) : Int)) = true := by simp; omega
    have t1 : (((t ++ [c]).length : Int) - ((1 : Nat) : Int)).toNat = t.length := by omega
    have h3 : (((t ++ [c]).take (t ++ [c]).length).drop t.length) = [c] := by rw [List.take_length, List.drop_left]
    have h4 : decide ([c] = ([10] : Sx)) = decide (c = 10) := by simp
    refine enter (F := f55) rfl rfl ?_
    simp only [f55, ex,reduceIte,reduceCtorEq,Nat.reduceEqDiff,Nat.reduceLT,Nat.reduceLeDiff,Nat.reduceAdd,Nat.reduceSub,Nat.reduceMul,Int.reduceAdd,Int.reduceSub,Int.reduceMul,Int.reduceNeg,Int.reduceLE,Int.reduceLT,Int.reduceEq,Int.reduceToNat]
    (try simp only [h0, t1, h3, h4, ends_snoc, ex,reduceIte,reduceCtorEq,Nat.reduceEqDiff,Nat.reduceLT,Nat.reduceLeDiff,Nat.reduceAdd,Nat.reduceSub,Nat.reduceMul,Int.reduceAdd,Int.reduceSub,Int.reduceMul,Int.reduceNeg,Int.reduceLE,Int.reduceLT,Int.reduceEq,Int.reduceToNat]) <;> repeat ((with_reducible refine Req.intro ?_ ?_); (first | omega | (simp <;> omega)); try simp only [h0, t1, h3, h4, ends_snoc, ex,reduceIte,reduceCtorEq,Nat.reduceEqDiff,Nat.reduceLT,Nat.reduceLeDiff,Nat.reduceAdd,Nat.reduceSub,Nat.reduceMul,Int.reduceAdd,Int.reduceSub,Int.reduceMul,Int.reduceNeg,Int.reduceLE,Int.reduceLT,Int.reduceEq,Int.reduceToNat])
    rw [List.drop_left, h4]
theorem hasSuf_spec (s : Sx) (hs : s.length ≤ 1000000) : Run tab 37 0 [.str s, .str [10]] [] 0 (fun r _ _ => r = .bool (ends s)) := by
  refine enter (F := f37) rfl rfl ?_
  simp only [f37, ex,reduceIte,reduceCtorEq,Nat.reduceEqDiff,Nat.reduceLT,Nat.reduceLeDiff,Nat.reduceAdd,Nat.reduceSub,Nat.reduceMul,Int.reduceAdd,Int.reduceSub,Int.reduceMul,Int.reduceNeg,Int.reduceLE,Int.reduceLT,Int.reduceEq,Int.reduceToNat]
  refine CallA.eq rfl (hasSuf0_spec s hs) rfl ?_
  (try simp only [ex,reduceIte,reduceCtorEq,Nat.reduceEqDiff,Nat.reduceLT,Nat.reduceLeDiff,Nat.reduceAdd,Nat.reduceSub,Nat.reduceMul,Int.reduceAdd,Int.reduceSub,Int.reduceMul,Int.reduceNeg,Int.reduceLE,Int.reduceLT,Int.reduceEq,Int.reduceToNat]) <;> repeat ((with_reducible refine Req.intro ?_ ?_); (first | omega | (simp <;> omega)); try simp only [ex,reduceIte,reduceCtorEq,Nat.reduceEqDiff,Nat.reduceLT,Nat.reduceLeDiff,Nat.reduceAdd,Nat.reduceSub,Nat.reduceMul,Int.reduceAdd,Int.reduceSub,Int.reduceMul,Int.reduceNeg,Int.reduceLE,Int.reduceLT,Int.reduceEq,Int.reduceToNat])
/-- A builder is written. -/
theorem write_spec (b z n : Nat) (s x : Sx) (h : Heap) (hb : get h b = some (.bld 55 5 s)) (hl : s.length + x.length ≤ 17592186044416) :
    Run tab 36 0 [.ptr b z 0 0, .str x] h n (fun r h' n' => r = .tup [.int .i64 x.length, .nili] ∧ (get h' b = some (.bld 55 5 (s ++ x)) ∧ ∀ k, k ≠ b → get h' k = get h k) ∧ n' = n) := by
  have e : tab.ext 36 [.ptr b z 0 0, .str x] h n = some (.tup [.int .i64 x.length, .nili], set h b (.bld 55 5 (s ++ x)), n) := by
    have e0 : tab.ext = extF := rfl
    rw [e0]
    simp [extF, ext36, hb, hl]
  refine (run_ext e).weaken fun r h' n' hh => ⟨hh.1, ⟨by rw [hh.2.1, get_set_same], fun k hk => by rw [hh.2.1, get_set_other hk]⟩, hh.2.2⟩
theorem string_spec (b z n : Nat) (s : Sx) (h : Heap) (hb : get h b = some (.bld 55 5 s)) :
    Run tab 38 0 [.ptr b z 0 0] h n (fun r h' n' => r = .str s ∧ n' = n) := by
  have e : tab.ext 38 [.ptr b z 0 0] h n = some (.str s, set h b (.rows 2 [.agg [.junk, .junk]]), n) := by
    have e0 : tab.ext = extF := rfl
    rw [e0]
    simp [extF, ext38, hb]
  exact (run_ext e).weaken fun r h' n' hh => ⟨hh.1, hh.2.2⟩
theorem flat_len (f : Sx → Sx) (l : List Sx) (m : Nat) (h : ∀ s ∈ l, (f s).length ≤ m) (i : Nat) : ((l.take i).flatMap f).length ≤ m * i := by
  induction i with
  | zero => simp
  | succ i ih =>
    rw [List.take_add_one]
    cases hg : l[i]? with
    | none =>
      rw [Option.toList_none, List.append_nil, Nat.mul_succ]; omega
    | some s =>
      have := h s (List.mem_of_getElem? hg)
      simp only [Option.toList_some, List.flatMap_append, List.length_append, List.flatMap_cons, List.flatMap_nil, List.append_nil]
      rw [Nat.mul_succ]; omega
theorem enL_len (s : Sx) : (enL s).length ≤ s.length + 1 := by unfold enL; split <;> simp
theorem flatId : ∀ l : List Sx, l.flatMap (fun s => s) = l.flatten
  | [] => rfl
  | a :: l => by rw [List.flatMap_cons, flatId l, List.flatten_cons]
def layL (e : Bool) (s : Sx) : Sx := if e then enL s else s
theorem layT_eq (e : Bool) (l : List Sx) : layT e l = l.flatMap (layL e) := by
  cases e
  · have e : layL false = fun s => s := funext fun s => by simp [layL]
    rw [e, flatId l]; rfl
  · have e : layL true = enL := funext fun s => by simp [layL]
    rw [e]; rfl
/-- Lines that are not too long. -/
def Ln (l : List Sx) : Prop := l.length ≤ 10000 ∧ ∀ s ∈ l, s.length ≤ 1000
theorem lay_len (e : Bool) (l : List Sx) (h : Ln l) : (layT e l).length ≤ 10010000 := by
  rw [layT_eq]
  have := flat_len (layL e) l 1001 (fun s hs => by
    have h1 := h.2 s hs
    have h2 := enL_len s
    unfold layL
    split <;> omega) l.length
  rw [List.take_length] at this
  have h3 := h.1
  omega
theorem lay_spec (o e : Bool) (l : List Sx) (hl : Ln l) (b n : Nat) (s : Sx) (h : Heap) (hb : get h b = some (.bld 55 5 s)) (hs : s.length ≤ 10000000000000) :
    Run tab 35 0 [.sl o 1 (l.map .str), .bool e, .ptr b 2 0 0] h n (fun r h' n' => r = .tup [] ∧ get h' b = some (.bld 55 5 (s ++ layT e l)) ∧ n' = n) := by
  have hll := hl.1
  rw [layT_eq]
  refine enter (F := f35) rfl rfl ?_
  simp only [f35, ex,reduceIte,reduceCtorEq,Nat.reduceEqDiff,Nat.reduceLT,Nat.reduceLeDiff,Nat.reduceAdd,Nat.reduceSub,Nat.reduceMul,Int.reduceAdd,Int.reduceSub,Int.reduceMul,Int.reduceNeg,Int.reduceLE,Int.reduceLT,Int.reduceEq,Int.reduceToNat]
  (try simp only [ex,reduceIte,reduceCtorEq,Nat.reduceEqDiff,Nat.reduceLT,Nat.reduceLeDiff,Nat.reduceAdd,Nat.reduceSub,Nat.reduceMul,Int.reduceAdd,Int.reduceSub,Int.reduceMul,Int.reduceNeg,Int.reduceLE,Int.reduceLT,Int.reduceEq,Int.reduceToNat]) <;> repeat ((with_reducible refine Req.intro ?_ ?_); (first | omega | (simp <;> omega)); try simp only [ex,reduceIte,reduceCtorEq,Nat.reduceEqDiff,Nat.reduceLT,Nat.reduceLeDiff,Nat.reduceAdd,Nat.reduceSub,Nat.reduceMul,Int.reduceAdd,Int.reduceSub,Int.reduceMul,Int.reduceNeg,Int.reduceLE,Int.reduceLT,Int.reduceEq,Int.reduceToNat])
  refine loopI fun L hL => ?_
  (try simp only [ex,reduceIte,reduceCtorEq,Nat.reduceEqDiff,Nat.reduceLT,Nat.reduceLeDiff,Nat.reduceAdd,Nat.reduceSub,Nat.reduceMul,Int.reduceAdd,Int.reduceSub,Int.reduceMul,Int.reduceNeg,Int.reduceLE,Int.reduceLT,Int.reduceEq,Int.reduceToNat]) <;> repeat ((with_reducible refine Req.intro ?_ ?_); (first | omega | (simp <;> omega)); try simp only [ex,reduceIte,reduceCtorEq,Nat.reduceEqDiff,Nat.reduceLT,Nat.reduceLeDiff,Nat.reduceAdd,Nat.reduceSub,Nat.reduceMul,Int.reduceAdd,Int.reduceSub,Int.reduceMul,Int.reduceNeg,Int.reduceLE,Int.reduceLT,Int.reduceEq,Int.reduceToNat])
  have key : ∀ (m i : Nat) (H : Heap), i + m = l.length → get H b = some (.bld 55 5 (s ++ (l.take i).flatMap (layL e))) → L (L35_1 (.bool e) (.ptr b 2 0 0) (.sl o 1 (l.map .str)) (.int .i64 l.length) (.int .i64 i) H n) := by
    intro m
    induction m with
    | zero =>
      intro i H hi g
      have k1 : decide ((i : Int) < (l.length : Int)) = false := by simp; omega
      rw [List.take_of_length_le (by omega)] at g
      apply hL
      simp only [L35_1, l35_1, ex,reduceIte,reduceCtorEq,Nat.reduceEqDiff,Nat.reduceLT,Nat.reduceLeDiff,Nat.reduceAdd,Nat.reduceSub,Nat.reduceMul,Int.reduceAdd,Int.reduceSub,Int.reduceMul,Int.reduceNeg,Int.reduceLE,Int.reduceLT,Int.reduceEq,Int.reduceToNat]
      (try simp only [k1, ex,reduceIte,reduceCtorEq,Nat.reduceEqDiff,Nat.reduceLT,Nat.reduceLeDiff,Nat.reduceAdd,Nat.reduceSub,Nat.reduceMul,Int.reduceAdd,Int.reduceSub,Int.reduceMul,Int.reduceNeg,Int.reduceLE,Int.reduceLT,Int.reduceEq,Int.reduceToNat]) <;> repeat ((with_reducible refine Req.intro ?_ ?_); (first | omega | (simp <;> omega)); try simp only [k1, ex,reduceIte,reduceCtorEq,Nat.reduceEqDiff,Nat.reduceLT,Nat.reduceLeDiff,Nat.reduceAdd,Nat.reduceSub,Nat.reduceMul,Int.reduceAdd,Int.reduceSub,Int.reduceMul,Int.reduceNeg,Int.reduceLE,Int.reduceLT,Int.reduceEq,Int.reduceToNat])
      exact ⟨rfl, g⟩
    | succ m ih =>
      intro i H hi g
      have k1 : decide ((i : Int) < (l.length : Int)) = true := by simp; omega
      have g1 : l[i]? = some (l[i]'(by omega)) := List.getElem?_eq_getElem _
      have ht : l.take (i + 1) = l.take i ++ [l[i]'(by omega)] := by rw [List.take_add_one, g1]; rfl
      have hm : l[i]'(by omega) ∈ l := List.getElem_mem _
      have hb1 := flat_len (layL e) l 1001 (fun s hs => by
        have h1 := hl.2 s hs
        have h2 := enL_len s
        unfold layL
        split <;> omega) i
      generalize l[i]'(by omega) = x at *
      have hx := hl.2 x hm
      have h9 := fun H => ih (i + 1) H (by omega)
      rw [ht, List.flatMap_append, List.flatMap_cons, List.flatMap_nil, List.append_nil, ← List.append_assoc] at h9
      have hq : (s ++ (l.take i).flatMap (layL e)).length ≤ 10000000000000 + 1001 * i := by rw [List.length_append]; omega
      generalize s ++ (l.take i).flatMap (layL e) = acc at *
      apply hL
      simp only [L35_1, l35_1, ex,reduceIte,reduceCtorEq,Nat.reduceEqDiff,Nat.reduceLT,Nat.reduceLeDiff,Nat.reduceAdd,Nat.reduceSub,Nat.reduceMul,Int.reduceAdd,Int.reduceSub,Int.reduceMul,Int.reduceNeg,Int.reduceLE,Int.reduceLT,Int.reduceEq,Int.reduceToNat]
      (try simp only [k1, g1, ex,reduceIte,reduceCtorEq,Nat.reduceEqDiff,Nat.reduceLT,Nat.reduceLeDiff,Nat.reduceAdd,Nat.reduceSub,Nat.reduceMul,Int.reduceAdd,Int.reduceSub,Int.reduceMul,Int.reduceNeg,Int.reduceLE,Int.reduceLT,Int.reduceEq,Int.reduceToNat]) <;> repeat ((with_reducible refine Req.intro ?_ ?_); (first | omega | (simp <;> omega)); try simp only [k1, g1, ex,reduceIte,reduceCtorEq,Nat.reduceEqDiff,Nat.reduceLT,Nat.reduceLeDiff,Nat.reduceAdd,Nat.reduceSub,Nat.reduceMul,Int.reduceAdd,Int.reduceSub,Int.reduceMul,Int.reduceNeg,Int.reduceLE,Int.reduceLT,Int.reduceEq,Int.reduceToNat])
      refine CallH.any (write_spec b 2 n acc x H g (by omega)) ?_
      intro r H1 n1 hh
      have y1 := hh.1
      have y2 := hh.2.1.1
      have y3 := hh.2.2
      clear hh
      have hnn : n + (n - n) = n := by omega
      cases e with
      | false =>
        (try simp only [y1, y3, hnn, ex,reduceIte,reduceCtorEq,Nat.reduceEqDiff,Nat.reduceLT,Nat.reduceLeDiff,Nat.reduceAdd,Nat.reduceSub,Nat.reduceMul,Int.reduceAdd,Int.reduceSub,Int.reduceMul,Int.reduceNeg,Int.reduceLE,Int.reduceLT,Int.reduceEq,Int.reduceToNat]) <;> repeat ((with_reducible refine Req.intro ?_ ?_); (first | omega | (simp <;> omega)); try simp only [y1, y3, hnn, ex,reduceIte,reduceCtorEq,Nat.reduceEqDiff,Nat.reduceLT,Nat.reduceLeDiff,Nat.reduceAdd,Nat.reduceSub,Nat.reduceMul,Int.reduceAdd,Int.reduceSub,Int.reduceMul,Int.reduceNeg,Int.reduceLE,Int.reduceLT,Int.reduceEq,Int.reduceToNat])
        exact h9 H1 y2
      | true =>
        (try simp only [y1, y3, hnn, ex,reduceIte,reduceCtorEq,Nat.reduceEqDiff,Nat.reduceLT,Nat.reduceLeDiff,Nat.reduceAdd,Nat.reduceSub,Nat.reduceMul,Int.reduceAdd,Int.reduceSub,Int.reduceMul,Int.reduceNeg,Int.reduceLE,Int.reduceLT,Int.reduceEq,Int.reduceToNat]) <;> repeat ((with_reducible refine Req.intro ?_ ?_); (first | omega | (simp <;> omega)); try simp only [y1, y3, hnn, ex,reduceIte,reduceCtorEq,Nat.reduceEqDiff,Nat.reduceLT,Nat.reduceLeDiff,Nat.reduceAdd,Nat.reduceSub,Nat.reduceMul,Int.reduceAdd,Int.reduceSub,Int.reduceMul,Int.reduceNeg,Int.reduceLE,Int.reduceLT,Int.reduceEq,Int.reduceToNat])
        refine CallA.eq rfl (hasSuf_spec x (by omega)) rfl ?_
        cases he : ends x with
        | true =>
          have hL9 : layL true x = x := by simp [layL, enL, he]
          (try simp only [ex,reduceIte,reduceCtorEq,Nat.reduceEqDiff,Nat.reduceLT,Nat.reduceLeDiff,Nat.reduceAdd,Nat.reduceSub,Nat.reduceMul,Int.reduceAdd,Int.reduceSub,Int.reduceMul,Int.reduceNeg,Int.reduceLE,Int.reduceLT,Int.reduceEq,Int.reduceToNat]) <;> repeat ((with_reducible refine Req.intro ?_ ?_); (first | omega | (simp <;> omega)); try simp only [ex,reduceIte,reduceCtorEq,Nat.reduceEqDiff,Nat.reduceLT,Nat.reduceLeDiff,Nat.reduceAdd,Nat.reduceSub,Nat.reduceMul,Int.reduceAdd,Int.reduceSub,Int.reduceMul,Int.reduceNeg,Int.reduceLE,Int.reduceLT,Int.reduceEq,Int.reduceToNat])
          exact h9 H1 (by rw [hL9]; exact y2)
        | false =>
          have hL9 : layL true x = x ++ [10] := by simp [layL, enL, he]
          (try simp only [ex,reduceIte,reduceCtorEq,Nat.reduceEqDiff,Nat.reduceLT,Nat.reduceLeDiff,Nat.reduceAdd,Nat.reduceSub,Nat.reduceMul,Int.reduceAdd,Int.reduceSub,Int.reduceMul,Int.reduceNeg,Int.reduceLE,Int.reduceLT,Int.reduceEq,Int.reduceToNat]) <;> repeat ((with_reducible refine Req.intro ?_ ?_); (first | omega | (simp <;> omega)); try simp only [ex,reduceIte,reduceCtorEq,Nat.reduceEqDiff,Nat.reduceLT,Nat.reduceLeDiff,Nat.reduceAdd,Nat.reduceSub,Nat.reduceMul,Int.reduceAdd,Int.reduceSub,Int.reduceMul,Int.reduceNeg,Int.reduceLE,Int.reduceLT,Int.reduceEq,Int.reduceToNat])
          refine CallH.any (write_spec b 2 n (acc ++ x) [10] H1 y2 (by rw [List.length_append]; simp only [List.length_singleton]; omega)) ?_
          intro r2 H2 n2 hh2
          have z2 := hh2.2.1.1
          have z3 := hh2.2.2
          clear hh2
          (try simp only [z3, hnn, ex,reduceIte,reduceCtorEq,Nat.reduceEqDiff,Nat.reduceLT,Nat.reduceLeDiff,Nat.reduceAdd,Nat.reduceSub,Nat.reduceMul,Int.reduceAdd,Int.reduceSub,Int.reduceMul,Int.reduceNeg,Int.reduceLE,Int.reduceLT,Int.reduceEq,Int.reduceToNat]) <;> repeat ((with_reducible refine Req.intro ?_ ?_); (first | omega | (simp <;> omega)); try simp only [z3, hnn, ex,reduceIte,reduceCtorEq,Nat.reduceEqDiff,Nat.reduceLT,Nat.reduceLeDiff,Nat.reduceAdd,Nat.reduceSub,Nat.reduceMul,Int.reduceAdd,Int.reduceSub,Int.reduceMul,Int.reduceNeg,Int.reduceLE,Int.reduceLT,Int.reduceEq,Int.reduceToNat])
          exact h9 H2 (by rw [hL9, ← List.append_assoc]; exact z2)
  exact key l.length 0 h (Nat.zero_add _) (by simpa using hb)
theorem ended_spec (o : Bool) (l : List Sx) (hl : Ln l) : Run tab 39 0 [.sl o 1 (l.map .str)] [] 0 (fun r _ _ => r = .str (ended l)) := by
  have hll := hl.1
  refine enter (F := f39) rfl rfl ?_
  simp only [f39, ex,reduceIte,reduceCtorEq,Nat.reduceEqDiff,Nat.reduceLT,Nat.reduceLeDiff,Nat.reduceAdd,Nat.reduceSub,Nat.reduceMul,Int.reduceAdd,Int.reduceSub,Int.reduceMul,Int.reduceNeg,Int.reduceLE,Int.reduceLT,Int.reduceEq,Int.reduceToNat]
  (try simp only [ex,reduceIte,reduceCtorEq,Nat.reduceEqDiff,Nat.reduceLT,Nat.reduceLeDiff,Nat.reduceAdd,Nat.reduceSub,Nat.reduceMul,Int.reduceAdd,Int.reduceSub,Int.reduceMul,Int.reduceNeg,Int.reduceLE,Int.reduceLT,Int.reduceEq,Int.reduceToNat]) <;> repeat ((with_reducible refine Req.intro ?_ ?_); (first | omega | (simp <;> omega)); try simp only [ex,reduceIte,reduceCtorEq,Nat.reduceEqDiff,Nat.reduceLT,Nat.reduceLeDiff,Nat.reduceAdd,Nat.reduceSub,Nat.reduceMul,Int.reduceAdd,Int.reduceSub,Int.reduceMul,Int.reduceNeg,Int.reduceLE,Int.reduceLT,Int.reduceEq,Int.reduceToNat])
  refine loopI fun L hL => ?_
  (try simp only [ex,reduceIte,reduceCtorEq,Nat.reduceEqDiff,Nat.reduceLT,Nat.reduceLeDiff,Nat.reduceAdd,Nat.reduceSub,Nat.reduceMul,Int.reduceAdd,Int.reduceSub,Int.reduceMul,Int.reduceNeg,Int.reduceLE,Int.reduceLT,Int.reduceEq,Int.reduceToNat]) <;> repeat ((with_reducible refine Req.intro ?_ ?_); (first | omega | (simp <;> omega)); try simp only [ex,reduceIte,reduceCtorEq,Nat.reduceEqDiff,Nat.reduceLT,Nat.reduceLeDiff,Nat.reduceAdd,Nat.reduceSub,Nat.reduceMul,Int.reduceAdd,Int.reduceSub,Int.reduceMul,Int.reduceNeg,Int.reduceLE,Int.reduceLT,Int.reduceEq,Int.reduceToNat])
  have key : ∀ (m i : Nat), i + m = l.length → L (L39_1 (.sl o 1 (l.map .str)) (.str (ended (l.take i))) (.int .i64 i) [] 0) := by
    intro m
    induction m with
    | zero =>
      intro i hi
      have k1 : decide ((i : Int) < (l.length : Int)) = false := by simp; omega
      rw [List.take_of_length_le (by omega)]
      apply hL
      simp only [L39_1, l39_1, ex,reduceIte,reduceCtorEq,Nat.reduceEqDiff,Nat.reduceLT,Nat.reduceLeDiff,Nat.reduceAdd,Nat.reduceSub,Nat.reduceMul,Int.reduceAdd,Int.reduceSub,Int.reduceMul,Int.reduceNeg,Int.reduceLE,Int.reduceLT,Int.reduceEq,Int.reduceToNat]
      (try simp only [k1, ex,reduceIte,reduceCtorEq,Nat.reduceEqDiff,Nat.reduceLT,Nat.reduceLeDiff,Nat.reduceAdd,Nat.reduceSub,Nat.reduceMul,Int.reduceAdd,Int.reduceSub,Int.reduceMul,Int.reduceNeg,Int.reduceLE,Int.reduceLT,Int.reduceEq,Int.reduceToNat]) <;> repeat ((with_reducible refine Req.intro ?_ ?_); (first | omega | (simp <;> omega)); try simp only [k1, ex,reduceIte,reduceCtorEq,Nat.reduceEqDiff,Nat.reduceLT,Nat.reduceLeDiff,Nat.reduceAdd,Nat.reduceSub,Nat.reduceMul,Int.reduceAdd,Int.reduceSub,Int.reduceMul,Int.reduceNeg,Int.reduceLE,Int.reduceLT,Int.reduceEq,Int.reduceToNat])
    | succ m ih =>
      intro i hi
      have k1 : decide ((i : Int) < (l.length : Int)) = true := by simp; omega
      have g1 : l[i]? = some (l[i]'(by omega)) := List.getElem?_eq_getElem _
      have ht : l.take (i + 1) = l.take i ++ [l[i]'(by omega)] := by rw [List.take_add_one, g1]; rfl
      have hm : l[i]'(by omega) ∈ l := List.getElem_mem _
      have hb1 := flat_len enL l 1001 (fun s hs => by
        have h1 := hl.2 s hs
        have h2 := enL_len s
        omega) i
      generalize l[i]'(by omega) = x at *
      have hx := hl.2 x hm
      have h9 := ih (i + 1) (by omega)
      have he9 : ended (l.take (i + 1)) = ended (l.take i) ++ enL x := by rw [ht]; simp [ended]
      rw [he9] at h9
      have hb2 : (ended (l.take i)).length ≤ 1001 * i := hb1
      generalize ended (l.take i) = acc at *
      rcases List.eq_nil_or_concat x with e | ⟨t, c, e⟩
      · subst e
        have hL9 : enL [] = [10] := rfl
        rw [hL9] at h9
        have d1 : decide (([] : Sx) = []) = true := rfl
        apply hL
        simp only [L39_1, l39_1, ex,reduceIte,reduceCtorEq,Nat.reduceEqDiff,Nat.reduceLT,Nat.reduceLeDiff,Nat.reduceAdd,Nat.reduceSub,Nat.reduceMul,Int.reduceAdd,Int.reduceSub,Int.reduceMul,Int.reduceNeg,Int.reduceLE,Int.reduceLT,Int.reduceEq,Int.reduceToNat]
        (try simp only [k1, g1, d1, List.append_nil, ex,reduceIte,reduceCtorEq,Nat.reduceEqDiff,Nat.reduceLT,Nat.reduceLeDiff,Nat.reduceAdd,Nat.reduceSub,Nat.reduceMul,Int.reduceAdd,Int.reduceSub,Int.reduceMul,Int.reduceNeg,Int.reduceLE,Int.reduceLT,Int.reduceEq,Int.reduceToNat]) <;> repeat ((with_reducible refine Req.intro ?_ ?_); (first | omega | (simp <;> omega)); try simp only [k1, g1, d1, List.append_nil, ex,reduceIte,reduceCtorEq,Nat.reduceEqDiff,Nat.reduceLT,Nat.reduceLeDiff,Nat.reduceAdd,Nat.reduceSub,Nat.reduceMul,Int.reduceAdd,Int.reduceSub,Int.reduceMul,Int.reduceNeg,Int.reduceLE,Int.reduceLT,Int.reduceEq,Int.reduceToNat])
        exact h9
      · rw [List.concat_eq_append] at e
        subst e
        rw [List.length_append, List.length_singleton] at hx
        have hl2 : (t ++ [c]).length = t.length + 1 := by simp
        have d1 : decide (t ++ [c] = []) = false := by simp
        have t1 : (((t ++ [c]).length : Int) - 1).toNat = t.length := by omega
        have g2 : (t ++ [c])[t.length]? = some c := by simp
        have ee := ends_snoc t c
        rcases Classical.em (c = 10) with e | e
        · have hL9 : enL (t ++ [c]) = t ++ [c] := by unfold enL; rw [ee, if_pos (by simp [e])]
          rw [hL9] at h9
          have d2 : decide ((c.toNat : Int) = 10) = true := by subst e; rfl
          apply hL
          simp only [L39_1, l39_1, ex,reduceIte,reduceCtorEq,Nat.reduceEqDiff,Nat.reduceLT,Nat.reduceLeDiff,Nat.reduceAdd,Nat.reduceSub,Nat.reduceMul,Int.reduceAdd,Int.reduceSub,Int.reduceMul,Int.reduceNeg,Int.reduceLE,Int.reduceLT,Int.reduceEq,Int.reduceToNat]
          (try simp only [k1, g1, d1, t1, g2, d2, ex,reduceIte,reduceCtorEq,Nat.reduceEqDiff,Nat.reduceLT,Nat.reduceLeDiff,Nat.reduceAdd,Nat.reduceSub,Nat.reduceMul,Int.reduceAdd,Int.reduceSub,Int.reduceMul,Int.reduceNeg,Int.reduceLE,Int.reduceLT,Int.reduceEq,Int.reduceToNat]) <;> repeat ((with_reducible refine Req.intro ?_ ?_); (first | omega | (simp <;> omega)); try simp only [k1, g1, d1, t1, g2, d2, ex,reduceIte,reduceCtorEq,Nat.reduceEqDiff,Nat.reduceLT,Nat.reduceLeDiff,Nat.reduceAdd,Nat.reduceSub,Nat.reduceMul,Int.reduceAdd,Int.reduceSub,Int.reduceMul,Int.reduceNeg,Int.reduceLE,Int.reduceLT,Int.reduceEq,Int.reduceToNat])
          exact h9
        · have hL9 : enL (t ++ [c]) = t ++ [c] ++ [10] := by unfold enL; rw [ee, if_neg (by simp [e])]
          rw [hL9, ← List.append_assoc] at h9
          have d2 : decide ((c.toNat : Int) = 10) = false := by
            have : c.toNat ≠ 10 := fun q => e (UInt8.toNat_inj.1 q)
            simp; omega
          apply hL
          simp only [L39_1, l39_1, ex,reduceIte,reduceCtorEq,Nat.reduceEqDiff,Nat.reduceLT,Nat.reduceLeDiff,Nat.reduceAdd,Nat.reduceSub,Nat.reduceMul,Int.reduceAdd,Int.reduceSub,Int.reduceMul,Int.reduceNeg,Int.reduceLE,Int.reduceLT,Int.reduceEq,Int.reduceToNat]
          (try simp only [k1, g1, d1, t1, g2, d2, ex,reduceIte,reduceCtorEq,Nat.reduceEqDiff,Nat.reduceLT,Nat.reduceLeDiff,Nat.reduceAdd,Nat.reduceSub,Nat.reduceMul,Int.reduceAdd,Int.reduceSub,Int.reduceMul,Int.reduceNeg,Int.reduceLE,Int.reduceLT,Int.reduceEq,Int.reduceToNat]) <;> repeat ((with_reducible refine Req.intro ?_ ?_); (first | omega | (simp <;> omega)); try simp only [k1, g1, d1, t1, g2, d2, ex,reduceIte,reduceCtorEq,Nat.reduceEqDiff,Nat.reduceLT,Nat.reduceLeDiff,Nat.reduceAdd,Nat.reduceSub,Nat.reduceMul,Int.reduceAdd,Int.reduceSub,Int.reduceMul,Int.reduceNeg,Int.reduceLE,Int.reduceLT,Int.reduceEq,Int.reduceToNat])
          exact h9
  exact key l.length 0 (Nat.zero_add _)
theorem bytes_str : ∀ s : Sx, bytesOf (s.map byteV) = some s
  | [] => rfl
  | c :: s => by
    show (bytesOf (s.map byteV)).map _ = _
    rw [bytes_str s]
    simp
theorem join_spec (o : Bool) (l : List Sx) (hl : Ln l) : Run tab 40 0 [.sl o 1 (l.map .str)] [] 0 (fun r _ _ => r = .str l.flatten) := by
  have hll := hl.1
  refine enter (F := f40) rfl rfl ?_
  simp only [f40, ex,reduceIte,reduceCtorEq,Nat.reduceEqDiff,Nat.reduceLT,Nat.reduceLeDiff,Nat.reduceAdd,Nat.reduceSub,Nat.reduceMul,Int.reduceAdd,Int.reduceSub,Int.reduceMul,Int.reduceNeg,Int.reduceLE,Int.reduceLT,Int.reduceEq,Int.reduceToNat]
  (try simp only [ex,reduceIte,reduceCtorEq,Nat.reduceEqDiff,Nat.reduceLT,Nat.reduceLeDiff,Nat.reduceAdd,Nat.reduceSub,Nat.reduceMul,Int.reduceAdd,Int.reduceSub,Int.reduceMul,Int.reduceNeg,Int.reduceLE,Int.reduceLT,Int.reduceEq,Int.reduceToNat]) <;> repeat ((with_reducible refine Req.intro ?_ ?_); (first | omega | (simp <;> omega)); try simp only [ex,reduceIte,reduceCtorEq,Nat.reduceEqDiff,Nat.reduceLT,Nat.reduceLeDiff,Nat.reduceAdd,Nat.reduceSub,Nat.reduceMul,Int.reduceAdd,Int.reduceSub,Int.reduceMul,Int.reduceNeg,Int.reduceLE,Int.reduceLT,Int.reduceEq,Int.reduceToNat])
  refine loopI fun L hL => ?_
  (try simp only [ex,reduceIte,reduceCtorEq,Nat.reduceEqDiff,Nat.reduceLT,Nat.reduceLeDiff,Nat.reduceAdd,Nat.reduceSub,Nat.reduceMul,Int.reduceAdd,Int.reduceSub,Int.reduceMul,Int.reduceNeg,Int.reduceLE,Int.reduceLT,Int.reduceEq,Int.reduceToNat]) <;> repeat ((with_reducible refine Req.intro ?_ ?_); (first | omega | (simp <;> omega)); try simp only [ex,reduceIte,reduceCtorEq,Nat.reduceEqDiff,Nat.reduceLT,Nat.reduceLeDiff,Nat.reduceAdd,Nat.reduceSub,Nat.reduceMul,Int.reduceAdd,Int.reduceSub,Int.reduceMul,Int.reduceNeg,Int.reduceLE,Int.reduceLT,Int.reduceEq,Int.reduceToNat])
  have key : ∀ (m i : Nat), i + m = l.length → L (L40_1 (.sl o 1 (l.map .str)) (.sl true 1 (((l.take i).flatten).map byteV)) (.int .i64 l.length) (.int .i64 i) [] 0) := by
    intro m
    induction m with
    | zero =>
      intro i hi
      have k1 : decide ((i : Int) < (l.length : Int)) = false := by simp; omega
      rw [List.take_of_length_le (by omega)]
      apply hL
      simp only [L40_1, l40_1, ex,reduceIte,reduceCtorEq,Nat.reduceEqDiff,Nat.reduceLT,Nat.reduceLeDiff,Nat.reduceAdd,Nat.reduceSub,Nat.reduceMul,Int.reduceAdd,Int.reduceSub,Int.reduceMul,Int.reduceNeg,Int.reduceLE,Int.reduceLT,Int.reduceEq,Int.reduceToNat]
      (try simp only [k1, bytes_str, ex,reduceIte,reduceCtorEq,Nat.reduceEqDiff,Nat.reduceLT,Nat.reduceLeDiff,Nat.reduceAdd,Nat.reduceSub,Nat.reduceMul,Int.reduceAdd,Int.reduceSub,Int.reduceMul,Int.reduceNeg,Int.reduceLE,Int.reduceLT,Int.reduceEq,Int.reduceToNat]) <;> repeat ((with_reducible refine Req.intro ?_ ?_); (first | omega | (simp <;> omega)); try simp only [k1, bytes_str, ex,reduceIte,reduceCtorEq,Nat.reduceEqDiff,Nat.reduceLT,Nat.reduceLeDiff,Nat.reduceAdd,Nat.reduceSub,Nat.reduceMul,Int.reduceAdd,Int.reduceSub,Int.reduceMul,Int.reduceNeg,Int.reduceLE,Int.reduceLT,Int.reduceEq,Int.reduceToNat])
    | succ m ih =>
      intro i hi
      have k1 : decide ((i : Int) < (l.length : Int)) = true := by simp; omega
      have g1 : l[i]? = some (l[i]'(by omega)) := List.getElem?_eq_getElem _
      have ht : l.take (i + 1) = l.take i ++ [l[i]'(by omega)] := by rw [List.take_add_one, g1]; rfl
      have hm : l[i]'(by omega) ∈ l := List.getElem_mem _
      have hb1 := flat_len (fun s => s) l 1001 (fun s hs => by
        have h1 := hl.2 s hs
        omega) i
      rw [flatId] at hb1
      generalize l[i]'(by omega) = x at *
      have hx := hl.2 x hm
      have h9 := ih (i + 1) (by omega)
      have he9 : (l.take (i + 1)).flatten.map byteV = (l.take i).flatten.map byteV ++ x.map byteV := by rw [ht]; simp
      rw [he9] at h9
      have hb2 : ((l.take i).flatten.map byteV).length ≤ 1001 * i := by rw [List.length_map]; exact hb1
      generalize (l.take i).flatten.map byteV = acc at *
      apply hL
      simp only [L40_1, l40_1, ex,reduceIte,reduceCtorEq,Nat.reduceEqDiff,Nat.reduceLT,Nat.reduceLeDiff,Nat.reduceAdd,Nat.reduceSub,Nat.reduceMul,Int.reduceAdd,Int.reduceSub,Int.reduceMul,Int.reduceNeg,Int.reduceLE,Int.reduceLT,Int.reduceEq,Int.reduceToNat]
      (try simp only [k1, g1, ex,reduceIte,reduceCtorEq,Nat.reduceEqDiff,Nat.reduceLT,Nat.reduceLeDiff,Nat.reduceAdd,Nat.reduceSub,Nat.reduceMul,Int.reduceAdd,Int.reduceSub,Int.reduceMul,Int.reduceNeg,Int.reduceLE,Int.reduceLT,Int.reduceEq,Int.reduceToNat]) <;> repeat ((with_reducible refine Req.intro ?_ ?_); (first | omega | (simp <;> omega)); try simp only [k1, g1, ex,reduceIte,reduceCtorEq,Nat.reduceEqDiff,Nat.reduceLT,Nat.reduceLeDiff,Nat.reduceAdd,Nat.reduceSub,Nat.reduceMul,Int.reduceAdd,Int.reduceSub,Int.reduceMul,Int.reduceNeg,Int.reduceLE,Int.reduceLT,Int.reduceEq,Int.reduceToNat])
      exact h9
  exact key l.length 0 (Nat.zero_add _)
end Go.Proofs.Ytnodepfoahmcmaa.E.Hs

/- Chapter 12: marks of lines; Marked of both. Conditions: none. -/
namespace Go.Proofs.Ytnodepfoahmcmaa.E.Hs
set_option linter.unusedVariables false
set_option linter.unusedSimpArgs false
set_option maxHeartbeats 20000000
set_option maxRecDepth 100000

def bareL (s : Sx) : Sx := if ends s then s.take (s.length - 1) else s
def M1 : Sx := [60, 60, 60, 60, 60, 60, 60, 32]
def M4 : Sx := [62, 62, 62, 62, 62, 62, 62, 32]
def M2 : Sx := [124, 124, 124, 124, 124, 124, 124]
def M3 : Sx := [61, 61, 61, 61, 61, 61, 61]
/-- Which mark a line is. -/
def markK (s : Sx) : Int := if s.take 8 = M1 then 1 else if s.take 8 = M4 then 4 else if bareL s = M2 then 2 else if bareL s = M3 then 3 else 0
theorem hasPre0_spec (s p : Sx) (hp : p.length = 8) (hs : s.length ≤ 1000000) : Run tab 69 0 [.str s, .str p] [] 0 (fun r _ _ => r = .bool (decide (s.take 8 = p))) := by
  refine enter (F := f69) rfl rfl ?_
  simp only [f69, ex,reduceIte,reduceCtorEq,Nat.reduceEqDiff,Nat.reduceLT,Nat.reduceLeDiff,Nat.reduceAdd,Nat.reduceSub,Nat.reduceMul,Int.reduceAdd,Int.reduceSub,Int.reduceMul,Int.reduceNeg,Int.reduceLE,Int.reduceLT,Int.reduceEq,Int.reduceToNat]
  rcases Nat.lt_or_ge s.length 8 with c | c
  · have h0 : decide ((s.length : Int) ≥ ((8 : Nat) : Int)) = false := by simp; omega
    have h1 : decide (s.take 8 = p) = false := by
      simp only [decide_eq_false_iff_not]
      intro e
      have := congrArg List.length e
      rw [List.length_take] at this
      omega
    rw [h1]
    (try simp only [hp, h0, ex,reduceIte,reduceCtorEq,Nat.reduceEqDiff,Nat.reduceLT,Nat.reduceLeDiff,Nat.reduceAdd,Nat.reduceSub,Nat.reduceMul,Int.reduceAdd,Int.reduceSub,Int.reduceMul,Int.reduceNeg,Int.reduceLE,Int.reduceLT,Int.reduceEq,Int.reduceToNat]) <;> repeat ((with_reducible refine Req.intro ?_ ?_); (first | omega | (simp <;> omega)); try simp only [hp, h0, ex,reduceIte,reduceCtorEq,Nat.reduceEqDiff,Nat.reduceLT,Nat.reduceLeDiff,Nat.reduceAdd,Nat.reduceSub,Nat.reduceMul,Int.reduceAdd,Int.reduceSub,Int.reduceMul,Int.reduceNeg,Int.reduceLE,Int.reduceLT,Int.reduceEq,Int.reduceToNat])
  · have h0 : decide ((s.length : Int) ≥ ((8 : Nat) : Int)) = true := by simp; omega
    (try simp only [hp, h0, ex,reduceIte,reduceCtorEq,Nat.reduceEqDiff,Nat.reduceLT,Nat.reduceLeDiff,Nat.reduceAdd,Nat.reduceSub,Nat.reduceMul,Int.reduceAdd,Int.reduceSub,Int.reduceMul,Int.reduceNeg,Int.reduceLE,Int.reduceLT,Int.reduceEq,Int.reduceToNat]) <;> repeat ((with_reducible refine Req.intro ?_ ?_); (first | omega | (simp <;> omega)); try simp only [hp, h0, ex,reduceIte,reduceCtorEq,Nat.reduceEqDiff,Nat.reduceLT,Nat.reduceLeDiff,Nat.reduceAdd,Nat.reduceSub,Nat.reduceMul,Int.reduceAdd,Int.reduceSub,Int.reduceMul,Int.reduceNeg,Int.reduceLE,Int.reduceLT,Int.reduceEq,Int.reduceToNat])
theorem hasPre_spec (s p : Sx) (hp : p.length = 8) (hs : s.length ≤ 1000000) : Run tab 58 0 [.str s, .str p] [] 0 (fun r _ _ => r = .bool (decide (s.take 8 = p))) := by
  refine enter (F := f58) rfl rfl ?_
  simp only [f58, ex,reduceIte,reduceCtorEq,Nat.reduceEqDiff,Nat.reduceLT,Nat.reduceLeDiff,Nat.reduceAdd,Nat.reduceSub,Nat.reduceMul,Int.reduceAdd,Int.reduceSub,Int.reduceMul,Int.reduceNeg,Int.reduceLE,Int.reduceLT,Int.reduceEq,Int.reduceToNat]
  refine CallA.eq rfl (hasPre0_spec s p hp hs) rfl ?_
  (try simp only [ex,reduceIte,reduceCtorEq,Nat.reduceEqDiff,Nat.reduceLT,Nat.reduceLeDiff,Nat.reduceAdd,Nat.reduceSub,Nat.reduceMul,Int.reduceAdd,Int.reduceSub,Int.reduceMul,Int.reduceNeg,Int.reduceLE,Int.reduceLT,Int.reduceEq,Int.reduceToNat]) <;> repeat ((with_reducible refine Req.intro ?_ ?_); (first | omega | (simp <;> omega)); try simp only [ex,reduceIte,reduceCtorEq,Nat.reduceEqDiff,Nat.reduceLT,Nat.reduceLeDiff,Nat.reduceAdd,Nat.reduceSub,Nat.reduceMul,Int.reduceAdd,Int.reduceSub,Int.reduceMul,Int.reduceNeg,Int.reduceLE,Int.reduceLT,Int.reduceEq,Int.reduceToNat])
theorem trimSuf0_spec (s : Sx) (hs : s.length ≤ 1000000) : Run tab 68 0 [.str s, .str [10]] [] 0 (fun r _ _ => r = .str (bareL s)) := by
  refine enter (F := f68) rfl rfl ?_
  simp only [f68, ex,reduceIte,reduceCtorEq,Nat.reduceEqDiff,Nat.reduceLT,Nat.reduceLeDiff,Nat.reduceAdd,Nat.reduceSub,Nat.reduceMul,Int.reduceAdd,Int.reduceSub,Int.reduceMul,Int.reduceNeg,Int.reduceLE,Int.reduceLT,Int.reduceEq,Int.reduceToNat]
  refine CallA.eq rfl (hasSuf0_spec s hs) rfl ?_
  unfold bareL
  cases he : ends s with
  | false => (try simp only [ex,reduceIte,reduceCtorEq,Nat.reduceEqDiff,Nat.reduceLT,Nat.reduceLeDiff,Nat.reduceAdd,Nat.reduceSub,Nat.reduceMul,Int.reduceAdd,Int.reduceSub,Int.reduceMul,Int.reduceNeg,Int.reduceLE,Int.reduceLT,Int.reduceEq,Int.reduceToNat]) <;> repeat ((with_reducible refine Req.intro ?_ ?_); (first | omega | (simp <;> omega)); try simp only [ex,reduceIte,reduceCtorEq,Nat.reduceEqDiff,Nat.reduceLT,Nat.reduceLeDiff,Nat.reduceAdd,Nat.reduceSub,Nat.reduceMul,Int.reduceAdd,Int.reduceSub,Int.reduceMul,Int.reduceNeg,Int.reduceLE,Int.reduceLT,Int.reduceEq,Int.reduceToNat])
  | true =>
    have hl : 0 < s.length := by
      rcases List.eq_nil_or_concat s with e | ⟨t, c, e⟩
      · subst e; simp [ends_nil] at he
      · subst e; simp
    have t1 : ((s.length : Int) - ((1 : Nat) : Int)).toNat = s.length - 1 := by omega
    (try simp only [t1, ex,reduceIte,reduceCtorEq,Nat.reduceEqDiff,Nat.reduceLT,Nat.reduceLeDiff,Nat.reduceAdd,Nat.reduceSub,Nat.reduceMul,Int.reduceAdd,Int.reduceSub,Int.reduceMul,Int.reduceNeg,Int.reduceLE,Int.reduceLT,Int.reduceEq,Int.reduceToNat]) <;> repeat ((with_reducible refine Req.intro ?_ ?_); (first | omega | (simp <;> omega)); try simp only [t1, ex,reduceIte,reduceCtorEq,Nat.reduceEqDiff,Nat.reduceLT,Nat.reduceLeDiff,Nat.reduceAdd,Nat.reduceSub,Nat.reduceMul,Int.reduceAdd,Int.reduceSub,Int.reduceMul,Int.reduceNeg,Int.reduceLE,Int.reduceLT,Int.reduceEq,Int.reduceToNat])
theorem trimSuf_spec (s : Sx) (hs : s.length ≤ 1000000) : Run tab 57 0 [.str s, .str [10]] [] 0 (fun r _ _ => r = .str (bareL s)) := by
  refine enter (F := f57) rfl rfl ?_
  simp only [f57, ex,reduceIte,reduceCtorEq,Nat.reduceEqDiff,Nat.reduceLT,Nat.reduceLeDiff,Nat.reduceAdd,Nat.reduceSub,Nat.reduceMul,Int.reduceAdd,Int.reduceSub,Int.reduceMul,Int.reduceNeg,Int.reduceLE,Int.reduceLT,Int.reduceEq,Int.reduceToNat]
  refine CallA.eq rfl (trimSuf0_spec s hs) rfl ?_
  (try simp only [ex,reduceIte,reduceCtorEq,Nat.reduceEqDiff,Nat.reduceLT,Nat.reduceLeDiff,Nat.reduceAdd,Nat.reduceSub,Nat.reduceMul,Int.reduceAdd,Int.reduceSub,Int.reduceMul,Int.reduceNeg,Int.reduceLE,Int.reduceLT,Int.reduceEq,Int.reduceToNat]) <;> repeat ((with_reducible refine Req.intro ?_ ?_); (first | omega | (simp <;> omega)); try simp only [ex,reduceIte,reduceCtorEq,Nat.reduceEqDiff,Nat.reduceLT,Nat.reduceLeDiff,Nat.reduceAdd,Nat.reduceSub,Nat.reduceMul,Int.reduceAdd,Int.reduceSub,Int.reduceMul,Int.reduceNeg,Int.reduceLE,Int.reduceLT,Int.reduceEq,Int.reduceToNat])
theorem tmark_spec (s : Sx) (hs : s.length ≤ 1000000) : Run tab 42 0 [.str s] [] 0 (fun r _ _ => r = .int .i64 (markK s)) := by
  refine enter (F := f42) rfl rfl ?_
  simp only [f42, ex,reduceIte,reduceCtorEq,Nat.reduceEqDiff,Nat.reduceLT,Nat.reduceLeDiff,Nat.reduceAdd,Nat.reduceSub,Nat.reduceMul,Int.reduceAdd,Int.reduceSub,Int.reduceMul,Int.reduceNeg,Int.reduceLE,Int.reduceLT,Int.reduceEq,Int.reduceToNat]
  refine CallA.eq rfl (trimSuf_spec s hs) rfl ?_
  (try simp only [ex,reduceIte,reduceCtorEq,Nat.reduceEqDiff,Nat.reduceLT,Nat.reduceLeDiff,Nat.reduceAdd,Nat.reduceSub,Nat.reduceMul,Int.reduceAdd,Int.reduceSub,Int.reduceMul,Int.reduceNeg,Int.reduceLE,Int.reduceLT,Int.reduceEq,Int.reduceToNat]) <;> repeat ((with_reducible refine Req.intro ?_ ?_); (first | omega | (simp <;> omega)); try simp only [ex,reduceIte,reduceCtorEq,Nat.reduceEqDiff,Nat.reduceLT,Nat.reduceLeDiff,Nat.reduceAdd,Nat.reduceSub,Nat.reduceMul,Int.reduceAdd,Int.reduceSub,Int.reduceMul,Int.reduceNeg,Int.reduceLE,Int.reduceLT,Int.reduceEq,Int.reduceToNat])
  refine CallA.eq rfl (hasPre_spec s M1 rfl hs) rfl ?_
  unfold markK
  rcases Classical.em (s.take 8 = M1) with e1 | e1
  · have d1 : decide (s.take 8 = M1) = true := decide_eq_true e1
    rw [if_pos e1]
    (try simp only [d1, ex,reduceIte,reduceCtorEq,Nat.reduceEqDiff,Nat.reduceLT,Nat.reduceLeDiff,Nat.reduceAdd,Nat.reduceSub,Nat.reduceMul,Int.reduceAdd,Int.reduceSub,Int.reduceMul,Int.reduceNeg,Int.reduceLE,Int.reduceLT,Int.reduceEq,Int.reduceToNat]) <;> repeat ((with_reducible refine Req.intro ?_ ?_); (first | omega | (simp <;> omega)); try simp only [d1, ex,reduceIte,reduceCtorEq,Nat.reduceEqDiff,Nat.reduceLT,Nat.reduceLeDiff,Nat.reduceAdd,Nat.reduceSub,Nat.reduceMul,Int.reduceAdd,Int.reduceSub,Int.reduceMul,Int.reduceNeg,Int.reduceLE,Int.reduceLT,Int.reduceEq,Int.reduceToNat])
  · have d1 : decide (s.take 8 = M1) = false := decide_eq_false e1
    rw [if_neg e1]
    (try simp only [d1, ex,reduceIte,reduceCtorEq,Nat.reduceEqDiff,Nat.reduceLT,Nat.reduceLeDiff,Nat.reduceAdd,Nat.reduceSub,Nat.reduceMul,Int.reduceAdd,Int.reduceSub,Int.reduceMul,Int.reduceNeg,Int.reduceLE,Int.reduceLT,Int.reduceEq,Int.reduceToNat]) <;> repeat ((with_reducible refine Req.intro ?_ ?_); (first | omega | (simp <;> omega)); try simp only [d1, ex,reduceIte,reduceCtorEq,Nat.reduceEqDiff,Nat.reduceLT,Nat.reduceLeDiff,Nat.reduceAdd,Nat.reduceSub,Nat.reduceMul,Int.reduceAdd,Int.reduceSub,Int.reduceMul,Int.reduceNeg,Int.reduceLE,Int.reduceLT,Int.reduceEq,Int.reduceToNat])
    refine CallA.eq rfl (hasPre_spec s M4 rfl hs) rfl ?_
    rcases Classical.em (s.take 8 = M4) with e2 | e2
    · have d2 : decide (s.take 8 = M4) = true := decide_eq_true e2
      rw [if_pos e2]
      (try simp only [d2, ex,reduceIte,reduceCtorEq,Nat.reduceEqDiff,Nat.reduceLT,Nat.reduceLeDiff,Nat.reduceAdd,Nat.reduceSub,Nat.reduceMul,Int.reduceAdd,Int.reduceSub,Int.reduceMul,Int.reduceNeg,Int.reduceLE,Int.reduceLT,Int.reduceEq,Int.reduceToNat]) <;> repeat ((with_reducible refine Req.intro ?_ ?_); (first | omega | (simp <;> omega)); try simp only [d2, ex,reduceIte,reduceCtorEq,Nat.reduceEqDiff,Nat.reduceLT,Nat.reduceLeDiff,Nat.reduceAdd,Nat.reduceSub,Nat.reduceMul,Int.reduceAdd,Int.reduceSub,Int.reduceMul,Int.reduceNeg,Int.reduceLE,Int.reduceLT,Int.reduceEq,Int.reduceToNat])
    · have d2 : decide (s.take 8 = M4) = false := decide_eq_false e2
      rw [if_neg e2]
      rcases Classical.em (bareL s = M2) with e3 | e3
      · have d3 : decide (bareL s = [124, 124, 124, 124, 124, 124, 124]) = true := decide_eq_true e3
        rw [if_pos e3]
        (try simp only [d2, d3, ex,reduceIte,reduceCtorEq,Nat.reduceEqDiff,Nat.reduceLT,Nat.reduceLeDiff,Nat.reduceAdd,Nat.reduceSub,Nat.reduceMul,Int.reduceAdd,Int.reduceSub,Int.reduceMul,Int.reduceNeg,Int.reduceLE,Int.reduceLT,Int.reduceEq,Int.reduceToNat]) <;> repeat ((with_reducible refine Req.intro ?_ ?_); (first | omega | (simp <;> omega)); try simp only [d2, d3, ex,reduceIte,reduceCtorEq,Nat.reduceEqDiff,Nat.reduceLT,Nat.reduceLeDiff,Nat.reduceAdd,Nat.reduceSub,Nat.reduceMul,Int.reduceAdd,Int.reduceSub,Int.reduceMul,Int.reduceNeg,Int.reduceLE,Int.reduceLT,Int.reduceEq,Int.reduceToNat])
      · have d3 : decide (bareL s = [124, 124, 124, 124, 124, 124, 124]) = false := decide_eq_false e3
        rw [if_neg e3]
        rcases Classical.em (bareL s = M3) with e4 | e4
        · have d4 : decide (bareL s = [61, 61, 61, 61, 61, 61, 61]) = true := decide_eq_true e4
          rw [if_pos e4]
          (try simp only [d2, d3, d4, ex,reduceIte,reduceCtorEq,Nat.reduceEqDiff,Nat.reduceLT,Nat.reduceLeDiff,Nat.reduceAdd,Nat.reduceSub,Nat.reduceMul,Int.reduceAdd,Int.reduceSub,Int.reduceMul,Int.reduceNeg,Int.reduceLE,Int.reduceLT,Int.reduceEq,Int.reduceToNat]) <;> repeat ((with_reducible refine Req.intro ?_ ?_); (first | omega | (simp <;> omega)); try simp only [d2, d3, d4, ex,reduceIte,reduceCtorEq,Nat.reduceEqDiff,Nat.reduceLT,Nat.reduceLeDiff,Nat.reduceAdd,Nat.reduceSub,Nat.reduceMul,Int.reduceAdd,Int.reduceSub,Int.reduceMul,Int.reduceNeg,Int.reduceLE,Int.reduceLT,Int.reduceEq,Int.reduceToNat])
        · have d4 : decide (bareL s = [61, 61, 61, 61, 61, 61, 61]) = false := decide_eq_false e4
          rw [if_neg e4]
          (try simp only [d2, d3, d4, ex,reduceIte,reduceCtorEq,Nat.reduceEqDiff,Nat.reduceLT,Nat.reduceLeDiff,Nat.reduceAdd,Nat.reduceSub,Nat.reduceMul,Int.reduceAdd,Int.reduceSub,Int.reduceMul,Int.reduceNeg,Int.reduceLE,Int.reduceLT,Int.reduceEq,Int.reduceToNat]) <;> repeat ((with_reducible refine Req.intro ?_ ?_); (first | omega | (simp <;> omega)); try simp only [d2, d3, d4, ex,reduceIte,reduceCtorEq,Nat.reduceEqDiff,Nat.reduceLT,Nat.reduceLeDiff,Nat.reduceAdd,Nat.reduceSub,Nat.reduceMul,Int.reduceAdd,Int.reduceSub,Int.reduceMul,Int.reduceNeg,Int.reduceLE,Int.reduceLT,Int.reduceEq,Int.reduceToNat])
theorem bare_spec (s : Sx) (hs : s.length ≤ 1000000) : Run tab 59 0 [.str s] [] 0 (fun r _ _ => r = .str (bareL s)) := by
  refine enter (F := f59) rfl rfl ?_
  simp only [f59, ex,reduceIte,reduceCtorEq,Nat.reduceEqDiff,Nat.reduceLT,Nat.reduceLeDiff,Nat.reduceAdd,Nat.reduceSub,Nat.reduceMul,Int.reduceAdd,Int.reduceSub,Int.reduceMul,Int.reduceNeg,Int.reduceLE,Int.reduceLT,Int.reduceEq,Int.reduceToNat]
  rcases List.eq_nil_or_concat s with e | ⟨t, c, e⟩
  · subst e
    have d1 : decide (([] : Sx) = []) = true := rfl
    have h2 : bareL [] = [] := rfl
    (try simp only [d1, h2, ex,reduceIte,reduceCtorEq,Nat.reduceEqDiff,Nat.reduceLT,Nat.reduceLeDiff,Nat.reduceAdd,Nat.reduceSub,Nat.reduceMul,Int.reduceAdd,Int.reduceSub,Int.reduceMul,Int.reduceNeg,Int.reduceLE,Int.reduceLT,Int.reduceEq,Int.reduceToNat]) <;> repeat ((with_reducible refine Req.intro ?_ ?_); (first | omega | (simp <;> omega)); try simp only [d1, h2, ex,reduceIte,reduceCtorEq,Nat.reduceEqDiff,Nat.reduceLT,Nat.reduceLeDiff,Nat.reduceAdd,Nat.reduceSub,Nat.reduceMul,Int.reduceAdd,Int.reduceSub,Int.reduceMul,Int.reduceNeg,Int.reduceLE,Int.reduceLT,Int.reduceEq,Int.reduceToNat])
  · rw [List.concat_eq_append] at e
    subst e
    rw [List.length_append, List.length_singleton] at hs
    have hl2 : (t ++ [c]).length = t.length + 1 := by simp
    have d1 : decide (t ++ [c] = []) = false := by simp
    have t1 : (((t ++ [c]).length : Int) - 1).toNat = t.length := by omega
    have g2 : (t ++ [c])[t.length]? = some c := by simp
    have ee := ends_snoc t c
    unfold bareL
    rw [ee]
    rcases Classical.em (c = 10) with e | e
    · have d2 : decide ((c.toNat : Int) = 10) = true := by subst e; rfl
      have d3 : decide (c = 10) = true := decide_eq_true e
      have t3 : (t ++ [c]).length - 1 = t.length := by omega
      rw [d3, if_pos rfl, t3]
      (try simp only [d1, t1, g2, d2, ex,reduceIte,reduceCtorEq,Nat.reduceEqDiff,Nat.reduceLT,Nat.reduceLeDiff,Nat.reduceAdd,Nat.reduceSub,Nat.reduceMul,Int.reduceAdd,Int.reduceSub,Int.reduceMul,Int.reduceNeg,Int.reduceLE,Int.reduceLT,Int.reduceEq,Int.reduceToNat]) <;> repeat ((with_reducible refine Req.intro ?_ ?_); (first | omega | (simp <;> omega)); try simp only [d1, t1, g2, d2, ex,reduceIte,reduceCtorEq,Nat.reduceEqDiff,Nat.reduceLT,Nat.reduceLeDiff,Nat.reduceAdd,Nat.reduceSub,Nat.reduceMul,Int.reduceAdd,Int.reduceSub,Int.reduceMul,Int.reduceNeg,Int.reduceLE,Int.reduceLT,Int.reduceEq,Int.reduceToNat])
    · have d2 : decide ((c.toNat : Int) = 10) = false := by
        have : c.toNat ≠ 10 := fun q => e (UInt8.toNat_inj.1 q)
        simp; omega
      have d3 : decide (c = 10) = false := decide_eq_false e
      rw [d3, if_neg (by simp)]
      (try simp only [d1, t1, g2, d2, ex,reduceIte,reduceCtorEq,Nat.reduceEqDiff,Nat.reduceLT,Nat.reduceLeDiff,Nat.reduceAdd,Nat.reduceSub,Nat.reduceMul,Int.reduceAdd,Int.reduceSub,Int.reduceMul,Int.reduceNeg,Int.reduceLE,Int.reduceLT,Int.reduceEq,Int.reduceToNat]) <;> repeat ((with_reducible refine Req.intro ?_ ?_); (first | omega | (simp <;> omega)); try simp only [d1, t1, g2, d2, ex,reduceIte,reduceCtorEq,Nat.reduceEqDiff,Nat.reduceLT,Nat.reduceLeDiff,Nat.reduceAdd,Nat.reduceSub,Nat.reduceMul,Int.reduceAdd,Int.reduceSub,Int.reduceMul,Int.reduceNeg,Int.reduceLE,Int.reduceLT,Int.reduceEq,Int.reduceToNat])
theorem rmark_spec (s : Sx) (hs : s.length ≤ 1000000) : Run tab 44 0 [.str s] [] 0 (fun r _ _ => r = .int .i64 (markK s)) := by
  refine enter (F := f44) rfl rfl ?_
  simp only [f44, ex,reduceIte,reduceCtorEq,Nat.reduceEqDiff,Nat.reduceLT,Nat.reduceLeDiff,Nat.reduceAdd,Nat.reduceSub,Nat.reduceMul,Int.reduceAdd,Int.reduceSub,Int.reduceMul,Int.reduceNeg,Int.reduceLE,Int.reduceLT,Int.reduceEq,Int.reduceToNat]
  unfold markK
  rcases Nat.lt_or_ge s.length 8 with c | c
  · have h0 : decide ((s.length : Int) ≥ 8) = false := by simp; omega
    have h1 : ∀ p : Sx, p.length = 8 → ¬ s.take 8 = p := fun p hp e => by
      have := congrArg List.length e
      rw [List.length_take] at this
      omega
    rw [if_neg (h1 M1 rfl), if_neg (h1 M4 rfl)]
    (try simp only [h0, ex,reduceIte,reduceCtorEq,Nat.reduceEqDiff,Nat.reduceLT,Nat.reduceLeDiff,Nat.reduceAdd,Nat.reduceSub,Nat.reduceMul,Int.reduceAdd,Int.reduceSub,Int.reduceMul,Int.reduceNeg,Int.reduceLE,Int.reduceLT,Int.reduceEq,Int.reduceToNat]) <;> repeat ((with_reducible refine Req.intro ?_ ?_); (first | omega | (simp <;> omega)); try simp only [h0, ex,reduceIte,reduceCtorEq,Nat.reduceEqDiff,Nat.reduceLT,Nat.reduceLeDiff,Nat.reduceAdd,Nat.reduceSub,Nat.reduceMul,Int.reduceAdd,Int.reduceSub,Int.reduceMul,Int.reduceNeg,Int.reduceLE,Int.reduceLT,Int.reduceEq,Int.reduceToNat])
    refine CallA.eq rfl (bare_spec s hs) rfl ?_
    rcases Classical.em (bareL s = M2) with e3 | e3
    · have d3 : decide (bareL s = [124, 124, 124, 124, 124, 124, 124]) = true := decide_eq_true e3
      rw [if_pos e3]
      (try simp only [d3, ex,reduceIte,reduceCtorEq,Nat.reduceEqDiff,Nat.reduceLT,Nat.reduceLeDiff,Nat.reduceAdd,Nat.reduceSub,Nat.reduceMul,Int.reduceAdd,Int.reduceSub,Int.reduceMul,Int.reduceNeg,Int.reduceLE,Int.reduceLT,Int.reduceEq,Int.reduceToNat]) <;> repeat ((with_reducible refine Req.intro ?_ ?_); (first | omega | (simp <;> omega)); try simp only [d3, ex,reduceIte,reduceCtorEq,Nat.reduceEqDiff,Nat.reduceLT,Nat.reduceLeDiff,Nat.reduceAdd,Nat.reduceSub,Nat.reduceMul,Int.reduceAdd,Int.reduceSub,Int.reduceMul,Int.reduceNeg,Int.reduceLE,Int.reduceLT,Int.reduceEq,Int.reduceToNat])
    · have d3 : decide (bareL s = [124, 124, 124, 124, 124, 124, 124]) = false := decide_eq_false e3
      rw [if_neg e3]
      (try simp only [d3, ex,reduceIte,reduceCtorEq,Nat.reduceEqDiff,Nat.reduceLT,Nat.reduceLeDiff,Nat.reduceAdd,Nat.reduceSub,Nat.reduceMul,Int.reduceAdd,Int.reduceSub,Int.reduceMul,Int.reduceNeg,Int.reduceLE,Int.reduceLT,Int.reduceEq,Int.reduceToNat]) <;> repeat ((with_reducible refine Req.intro ?_ ?_); (first | omega | (simp <;> omega)); try simp only [d3, ex,reduceIte,reduceCtorEq,Nat.reduceEqDiff,Nat.reduceLT,Nat.reduceLeDiff,Nat.reduceAdd,Nat.reduceSub,Nat.reduceMul,Int.reduceAdd,Int.reduceSub,Int.reduceMul,Int.reduceNeg,Int.reduceLE,Int.reduceLT,Int.reduceEq,Int.reduceToNat])
      refine CallA.eq rfl (bare_spec s hs) rfl ?_
      rcases Classical.em (bareL s = M3) with e4 | e4
      · have d4 : decide (bareL s = [61, 61, 61, 61, 61, 61, 61]) = true := decide_eq_true e4
        rw [if_pos e4]
        (try simp only [d4, ex,reduceIte,reduceCtorEq,Nat.reduceEqDiff,Nat.reduceLT,Nat.reduceLeDiff,Nat.reduceAdd,Nat.reduceSub,Nat.reduceMul,Int.reduceAdd,Int.reduceSub,Int.reduceMul,Int.reduceNeg,Int.reduceLE,Int.reduceLT,Int.reduceEq,Int.reduceToNat]) <;> repeat ((with_reducible refine Req.intro ?_ ?_); (first | omega | (simp <;> omega)); try simp only [d4, ex,reduceIte,reduceCtorEq,Nat.reduceEqDiff,Nat.reduceLT,Nat.reduceLeDiff,Nat.reduceAdd,Nat.reduceSub,Nat.reduceMul,Int.reduceAdd,Int.reduceSub,Int.reduceMul,Int.reduceNeg,Int.reduceLE,Int.reduceLT,Int.reduceEq,Int.reduceToNat])
      · have d4 : decide (bareL s = [61, 61, 61, 61, 61, 61, 61]) = false := decide_eq_false e4
        rw [if_neg e4]
        (try simp only [d4, ex,reduceIte,reduceCtorEq,Nat.reduceEqDiff,Nat.reduceLT,Nat.reduceLeDiff,Nat.reduceAdd,Nat.reduceSub,Nat.reduceMul,Int.reduceAdd,Int.reduceSub,Int.reduceMul,Int.reduceNeg,Int.reduceLE,Int.reduceLT,Int.reduceEq,Int.reduceToNat]) <;> repeat ((with_reducible refine Req.intro ?_ ?_); (first | omega | (simp <;> omega)); try simp only [d4, ex,reduceIte,reduceCtorEq,Nat.reduceEqDiff,Nat.reduceLT,Nat.reduceLeDiff,Nat.reduceAdd,Nat.reduceSub,Nat.reduceMul,Int.reduceAdd,Int.reduceSub,Int.reduceMul,Int.reduceNeg,Int.reduceLE,Int.reduceLT,Int.reduceEq,Int.reduceToNat])
  · have h0 : decide ((s.length : Int) ≥ 8) = true := by simp; omega
    rcases Classical.em (s.take 8 = M1) with e1 | e1
    · have d1 : decide (s.take 8 = [60, 60, 60, 60, 60, 60, 60, 32]) = true := decide_eq_true e1
      rw [if_pos e1]
      (try simp only [h0, d1, ex,reduceIte,reduceCtorEq,Nat.reduceEqDiff,Nat.reduceLT,Nat.reduceLeDiff,Nat.reduceAdd,Nat.reduceSub,Nat.reduceMul,Int.reduceAdd,Int.reduceSub,Int.reduceMul,Int.reduceNeg,Int.reduceLE,Int.reduceLT,Int.reduceEq,Int.reduceToNat]) <;> repeat ((with_reducible refine Req.intro ?_ ?_); (first | omega | (simp <;> omega)); try simp only [h0, d1, ex,reduceIte,reduceCtorEq,Nat.reduceEqDiff,Nat.reduceLT,Nat.reduceLeDiff,Nat.reduceAdd,Nat.reduceSub,Nat.reduceMul,Int.reduceAdd,Int.reduceSub,Int.reduceMul,Int.reduceNeg,Int.reduceLE,Int.reduceLT,Int.reduceEq,Int.reduceToNat])
    · have d1 : decide (s.take 8 = [60, 60, 60, 60, 60, 60, 60, 32]) = false := decide_eq_false e1
      rw [if_neg e1]
      rcases Classical.em (s.take 8 = M4) with e2 | e2
      · have d2 : decide (s.take 8 = [62, 62, 62, 62, 62, 62, 62, 32]) = true := decide_eq_true e2
        rw [if_pos e2]
        (try simp only [h0, d1, d2, ex,reduceIte,reduceCtorEq,Nat.reduceEqDiff,Nat.reduceLT,Nat.reduceLeDiff,Nat.reduceAdd,Nat.reduceSub,Nat.reduceMul,Int.reduceAdd,Int.reduceSub,Int.reduceMul,Int.reduceNeg,Int.reduceLE,Int.reduceLT,Int.reduceEq,Int.reduceToNat]) <;> repeat ((with_reducible refine Req.intro ?_ ?_); (first | omega | (simp <;> omega)); try simp only [h0, d1, d2, ex,reduceIte,reduceCtorEq,Nat.reduceEqDiff,Nat.reduceLT,Nat.reduceLeDiff,Nat.reduceAdd,Nat.reduceSub,Nat.reduceMul,Int.reduceAdd,Int.reduceSub,Int.reduceMul,Int.reduceNeg,Int.reduceLE,Int.reduceLT,Int.reduceEq,Int.reduceToNat])
      · have d2 : decide (s.take 8 = [62, 62, 62, 62, 62, 62, 62, 32]) = false := decide_eq_false e2
        rw [if_neg e2]
        (try simp only [h0, d1, d2, ex,reduceIte,reduceCtorEq,Nat.reduceEqDiff,Nat.reduceLT,Nat.reduceLeDiff,Nat.reduceAdd,Nat.reduceSub,Nat.reduceMul,Int.reduceAdd,Int.reduceSub,Int.reduceMul,Int.reduceNeg,Int.reduceLE,Int.reduceLT,Int.reduceEq,Int.reduceToNat]) <;> repeat ((with_reducible refine Req.intro ?_ ?_); (first | omega | (simp <;> omega)); try simp only [h0, d1, d2, ex,reduceIte,reduceCtorEq,Nat.reduceEqDiff,Nat.reduceLT,Nat.reduceLeDiff,Nat.reduceAdd,Nat.reduceSub,Nat.reduceMul,Int.reduceAdd,Int.reduceSub,Int.reduceMul,Int.reduceNeg,Int.reduceLE,Int.reduceLT,Int.reduceEq,Int.reduceToNat])
        refine CallA.eq rfl (bare_spec s hs) rfl ?_
        rcases Classical.em (bareL s = M2) with e3 | e3
        · have d3 : decide (bareL s = [124, 124, 124, 124, 124, 124, 124]) = true := decide_eq_true e3
          rw [if_pos e3]
          (try simp only [d3, ex,reduceIte,reduceCtorEq,Nat.reduceEqDiff,Nat.reduceLT,Nat.reduceLeDiff,Nat.reduceAdd,Nat.reduceSub,Nat.reduceMul,Int.reduceAdd,Int.reduceSub,Int.reduceMul,Int.reduceNeg,Int.reduceLE,Int.reduceLT,Int.reduceEq,Int.reduceToNat]) <;> repeat ((with_reducible refine Req.intro ?_ ?_); (first | omega | (simp <;> omega)); try simp only [d3, ex,reduceIte,reduceCtorEq,Nat.reduceEqDiff,Nat.reduceLT,Nat.reduceLeDiff,Nat.reduceAdd,Nat.reduceSub,Nat.reduceMul,Int.reduceAdd,Int.reduceSub,Int.reduceMul,Int.reduceNeg,Int.reduceLE,Int.reduceLT,Int.reduceEq,Int.reduceToNat])
        · have d3 : decide (bareL s = [124, 124, 124, 124, 124, 124, 124]) = false := decide_eq_false e3
          rw [if_neg e3]
          (try simp only [d3, ex,reduceIte,reduceCtorEq,Nat.reduceEqDiff,Nat.reduceLT,Nat.reduceLeDiff,Nat.reduceAdd,Nat.reduceSub,Nat.reduceMul,Int.reduceAdd,Int.reduceSub,Int.reduceMul,Int.reduceNeg,Int.reduceLE,Int.reduceLT,Int.reduceEq,Int.reduceToNat]) <;> repeat ((with_reducible refine Req.intro ?_ ?_); (first | omega | (simp <;> omega)); try simp only [d3, ex,reduceIte,reduceCtorEq,Nat.reduceEqDiff,Nat.reduceLT,Nat.reduceLeDiff,Nat.reduceAdd,Nat.reduceSub,Nat.reduceMul,Int.reduceAdd,Int.reduceSub,Int.reduceMul,Int.reduceNeg,Int.reduceLE,Int.reduceLT,Int.reduceEq,Int.reduceToNat])
          refine CallA.eq rfl (bare_spec s hs) rfl ?_
          rcases Classical.em (bareL s = M3) with e4 | e4
          · have d4 : decide (bareL s = [61, 61, 61, 61, 61, 61, 61]) = true := decide_eq_true e4
            rw [if_pos e4]
            (try simp only [d4, ex,reduceIte,reduceCtorEq,Nat.reduceEqDiff,Nat.reduceLT,Nat.reduceLeDiff,Nat.reduceAdd,Nat.reduceSub,Nat.reduceMul,Int.reduceAdd,Int.reduceSub,Int.reduceMul,Int.reduceNeg,Int.reduceLE,Int.reduceLT,Int.reduceEq,Int.reduceToNat]) <;> repeat ((with_reducible refine Req.intro ?_ ?_); (first | omega | (simp <;> omega)); try simp only [d4, ex,reduceIte,reduceCtorEq,Nat.reduceEqDiff,Nat.reduceLT,Nat.reduceLeDiff,Nat.reduceAdd,Nat.reduceSub,Nat.reduceMul,Int.reduceAdd,Int.reduceSub,Int.reduceMul,Int.reduceNeg,Int.reduceLE,Int.reduceLT,Int.reduceEq,Int.reduceToNat])
          · have d4 : decide (bareL s = [61, 61, 61, 61, 61, 61, 61]) = false := decide_eq_false e4
            rw [if_neg e4]
            (try simp only [d4, ex,reduceIte,reduceCtorEq,Nat.reduceEqDiff,Nat.reduceLT,Nat.reduceLeDiff,Nat.reduceAdd,Nat.reduceSub,Nat.reduceMul,Int.reduceAdd,Int.reduceSub,Int.reduceMul,Int.reduceNeg,Int.reduceLE,Int.reduceLT,Int.reduceEq,Int.reduceToNat]) <;> repeat ((with_reducible refine Req.intro ?_ ?_); (first | omega | (simp <;> omega)); try simp only [d4, ex,reduceIte,reduceCtorEq,Nat.reduceEqDiff,Nat.reduceLT,Nat.reduceLeDiff,Nat.reduceAdd,Nat.reduceSub,Nat.reduceMul,Int.reduceAdd,Int.reduceSub,Int.reduceMul,Int.reduceNeg,Int.reduceLE,Int.reduceLT,Int.reduceEq,Int.reduceToNat])
end Go.Proofs.Ytnodepfoahmcmaa.E.Hs

/- Chapter 12: clean lines are laid: both. Conditions: none. -/
namespace Go.Proofs.Ytnodepfoahmcmaa.E.Hs
set_option linter.unusedVariables false
set_option linter.unusedSimpArgs false
set_option maxHeartbeats 20000000
set_option maxRecDepth 100000

/-- Clean lines behind regions. -/
def addC (rs : List Rg) (l : List Sx) : List Rg :=
  if l = [] then rs else match rs.getLast? with
  | some r => if r.k = 1 then rs.take (rs.length - 1) ++ [{ r with l := r.l ++ l }] else rs ++ [⟨1, l, [], [], []⟩]
  | none => [⟨1, l, [], [], []⟩]
theorem rclean_spec (o : Bool) (rs : List Rg) (l : List Sx) (hok : OkR rs) (hl : l.length ≤ 1000000) :
    Run tab 32 0 [.sl true 5 (rs.map rgV), .sl o 1 (l.map .str)] [] 0 (fun r _ _ => r = .sl true 5 ((addC rs l).map rgV)) := by
  have h1 := hok.1
  refine enter (F := f32) rfl rfl ?_
  simp only [f32, ex,reduceIte,reduceCtorEq,Nat.reduceEqDiff,Nat.reduceLT,Nat.reduceLeDiff,Nat.reduceAdd,Nat.reduceSub,Nat.reduceMul,Int.reduceAdd,Int.reduceSub,Int.reduceMul,Int.reduceNeg,Int.reduceLE,Int.reduceLT,Int.reduceEq,Int.reduceToNat]
  rcases Classical.em (l = []) with e | e
  · subst e
    have d1 : decide (((([] : List Sx).length : Nat) : Int) = 0) = true := by decide
    have a1 : addC rs [] = rs := by simp [addC]
    rw [a1]
    (try simp only [d1, ex,reduceIte,reduceCtorEq,Nat.reduceEqDiff,Nat.reduceLT,Nat.reduceLeDiff,Nat.reduceAdd,Nat.reduceSub,Nat.reduceMul,Int.reduceAdd,Int.reduceSub,Int.reduceMul,Int.reduceNeg,Int.reduceLE,Int.reduceLT,Int.reduceEq,Int.reduceToNat]) <;> repeat ((with_reducible refine Req.intro ?_ ?_); (first | omega | (simp <;> omega)); try simp only [d1, ex,reduceIte,reduceCtorEq,Nat.reduceEqDiff,Nat.reduceLT,Nat.reduceLeDiff,Nat.reduceAdd,Nat.reduceSub,Nat.reduceMul,Int.reduceAdd,Int.reduceSub,Int.reduceMul,Int.reduceNeg,Int.reduceLE,Int.reduceLT,Int.reduceEq,Int.reduceToNat])
  · have hp : 0 < l.length := List.length_pos_iff.2 e
    have d1 : decide ((l.length : Int) = 0) = false := by simp; omega
    (try simp only [d1, ex,reduceIte,reduceCtorEq,Nat.reduceEqDiff,Nat.reduceLT,Nat.reduceLeDiff,Nat.reduceAdd,Nat.reduceSub,Nat.reduceMul,Int.reduceAdd,Int.reduceSub,Int.reduceMul,Int.reduceNeg,Int.reduceLE,Int.reduceLT,Int.reduceEq,Int.reduceToNat]) <;> repeat ((with_reducible refine Req.intro ?_ ?_); (first | omega | (simp <;> omega)); try simp only [d1, ex,reduceIte,reduceCtorEq,Nat.reduceEqDiff,Nat.reduceLT,Nat.reduceLeDiff,Nat.reduceAdd,Nat.reduceSub,Nat.reduceMul,Int.reduceAdd,Int.reduceSub,Int.reduceMul,Int.reduceNeg,Int.reduceLE,Int.reduceLT,Int.reduceEq,Int.reduceToNat])
    rcases List.eq_nil_or_concat rs with q | ⟨qs, r, q⟩
    · subst q
      have d2 : decide (((([] : List Rg).length : Nat) : Int) - 1 < 0) = true := by decide
      have a1 : addC [] l = [⟨1, l, [], [], []⟩] := by simp [addC, e]
      rw [a1]
      (try simp only [d2, ex,reduceIte,reduceCtorEq,Nat.reduceEqDiff,Nat.reduceLT,Nat.reduceLeDiff,Nat.reduceAdd,Nat.reduceSub,Nat.reduceMul,Int.reduceAdd,Int.reduceSub,Int.reduceMul,Int.reduceNeg,Int.reduceLE,Int.reduceLT,Int.reduceEq,Int.reduceToNat]) <;> repeat ((with_reducible refine Req.intro ?_ ?_); (first | omega | (simp <;> omega)); try simp only [d2, ex,reduceIte,reduceCtorEq,Nat.reduceEqDiff,Nat.reduceLT,Nat.reduceLeDiff,Nat.reduceAdd,Nat.reduceSub,Nat.reduceMul,Int.reduceAdd,Int.reduceSub,Int.reduceMul,Int.reduceNeg,Int.reduceLE,Int.reduceLT,Int.reduceEq,Int.reduceToNat])
      rfl
    · rw [List.concat_eq_append] at q
      subst q
      have hq : (qs ++ [r]).length = qs.length + 1 := by simp
      have d2 : decide (((qs ++ [r]).length : Int) - 1 < 0) = false := by rw [hq]; simp only [decide_eq_false_iff_not]; omega
      have g1 : (qs ++ [r])[qs.length]? = some r := by simp
      have t1 : (((qs ++ [r]).length : Int) - 1).toNat = qs.length := by omega
      have hr := hok.2 r (by simp)
      have hc : (rgV r).cells = [.int .i64 r.k, .sl false 1 (r.l.map .str), .sl false 1 (r.o.map .str), .sl false 1 (r.b.map .str), .sl false 1 (r.t.map .str)] := rfl
      rcases Classical.em (r.k = 1) with c | c
      · have d3 : decide (r.k = 1) = true := decide_eq_true c
        have a1 : addC (qs ++ [r]) l = qs ++ [{ r with l := r.l ++ l }] := by simp [addC, e, c]
        rw [a1]
        (try simp only [d2, g1, t1, hc, d3, ex,reduceIte,reduceCtorEq,Nat.reduceEqDiff,Nat.reduceLT,Nat.reduceLeDiff,Nat.reduceAdd,Nat.reduceSub,Nat.reduceMul,Int.reduceAdd,Int.reduceSub,Int.reduceMul,Int.reduceNeg,Int.reduceLE,Int.reduceLT,Int.reduceEq,Int.reduceToNat]) <;> repeat ((with_reducible refine Req.intro ?_ ?_); (first | omega | (simp <;> omega)); try simp only [d2, g1, t1, hc, d3, ex,reduceIte,reduceCtorEq,Nat.reduceEqDiff,Nat.reduceLT,Nat.reduceLeDiff,Nat.reduceAdd,Nat.reduceSub,Nat.reduceMul,Int.reduceAdd,Int.reduceSub,Int.reduceMul,Int.reduceNeg,Int.reduceLE,Int.reduceLT,Int.reduceEq,Int.reduceToNat])
        rw [List.take_left]
        simp [rgV]
      · have d3 : decide (r.k = 1) = false := decide_eq_false c
        have a1 : addC (qs ++ [r]) l = qs ++ [r] ++ [⟨1, l, [], [], []⟩] := by simp [addC, e, c]
        rw [a1]
        (try simp only [d2, g1, t1, hc, d3, ex,reduceIte,reduceCtorEq,Nat.reduceEqDiff,Nat.reduceLT,Nat.reduceLeDiff,Nat.reduceAdd,Nat.reduceSub,Nat.reduceMul,Int.reduceAdd,Int.reduceSub,Int.reduceMul,Int.reduceNeg,Int.reduceLE,Int.reduceLT,Int.reduceEq,Int.reduceToNat]) <;> repeat ((with_reducible refine Req.intro ?_ ?_); (first | omega | (simp <;> omega)); try simp only [d2, g1, t1, hc, d3, ex,reduceIte,reduceCtorEq,Nat.reduceEqDiff,Nat.reduceLT,Nat.reduceLeDiff,Nat.reduceAdd,Nat.reduceSub,Nat.reduceMul,Int.reduceAdd,Int.reduceSub,Int.reduceMul,Int.reduceNeg,Int.reduceLE,Int.reduceLT,Int.reduceEq,Int.reduceToNat])
        simp [rgV]
end Go.Proofs.Ytnodepfoahmcmaa.E.Hs

/- Chapter 12: the row's clean: walked. Conditions: none. -/
namespace Go.Proofs.Ytnodepfoahmcmaa.E.Hs
set_option linter.unusedVariables false
set_option linter.unusedSimpArgs false
set_option maxHeartbeats 20000000
set_option maxRecDepth 100000

theorem clone_spec (o : Bool) (l : List Sx) (hl : l.length ≤ 1000000) :
    Run tab 50 0 [.sl o 1 (l.map .str)] [] 0 (fun r _ _ => r = .sl true 1 (l.map .str)) := by
  rcases Classical.em (l = []) with e | e
  · subst e
    have e : tab.ext 50 [.sl o 1 []] [] 0 = some (.sl true 1 [], [], 0) := by
      have e0 : tab.ext = extF := rfl
      rw [e0]
      simp [extF, ext50]
    exact (run_ext e).weaken fun _ _ _ q => q.1
  · obtain ⟨x, t, rfl⟩ : ∃ x t, l = x :: t := by cases l with | nil => exact (e rfl).elim | cons x t => exact ⟨x, t, rfl⟩
    simp only [List.length_cons] at hl
    refine enter (F := f50) rfl rfl ?_
    simp only [f50, ex,reduceIte,reduceCtorEq,Nat.reduceEqDiff,Nat.reduceLT,Nat.reduceLeDiff,Nat.reduceAdd,Nat.reduceSub,Nat.reduceMul,Int.reduceAdd,Int.reduceSub,Int.reduceMul,Int.reduceNeg,Int.reduceLE,Int.reduceLT,Int.reduceEq,Int.reduceToNat]
    (try simp only [ex,reduceIte,reduceCtorEq,Nat.reduceEqDiff,Nat.reduceLT,Nat.reduceLeDiff,Nat.reduceAdd,Nat.reduceSub,Nat.reduceMul,Int.reduceAdd,Int.reduceSub,Int.reduceMul,Int.reduceNeg,Int.reduceLE,Int.reduceLT,Int.reduceEq,Int.reduceToNat]) <;> repeat ((with_reducible refine Req.intro ?_ ?_); (first | omega | (simp <;> omega)); try simp only [ex,reduceIte,reduceCtorEq,Nat.reduceEqDiff,Nat.reduceLT,Nat.reduceLeDiff,Nat.reduceAdd,Nat.reduceSub,Nat.reduceMul,Int.reduceAdd,Int.reduceSub,Int.reduceMul,Int.reduceNeg,Int.reduceLE,Int.reduceLT,Int.reduceEq,Int.reduceToNat])
/-- A region in the row: what was laid clean may be written. -/
def rgO (r : Rg) : V := .agg [.int .i64 r.k, .sl (decide (r.k = 1)) 1 (r.l.map .str), .sl (decide (r.k = 1)) 1 (r.o.map .str), .sl (decide (r.k = 1)) 1 (r.b.map .str), .sl (decide (r.k = 1)) 1 (r.t.map .str)]
/-- The row under number b holds the regions. -/
def Row (h : Heap) (n b : Nat) (rs : List Rg) : Prop :=
  b < n ∧ (∀ k, n ≤ k → get h k = none) ∧
    ((rs = [] ∧ get h b = some (.rows 1 [.agg [.hs 0 0 0 0]])) ∨ ∃ c, c < n ∧ c ≠ b ∧ 0 < rs.length ∧ get h b = some (.rows 1 [.agg [.hs c 5 0 rs.length]]) ∧ get h c = some (.rows 5 (rs.map rgO)))
theorem row_clean (o : Bool) (rs : List Rg) (l : List Sx) (h : Heap) (n b : Nat) (hok : OkR rs) (hl : l.length ≤ 1000000) (hR : Row h n b rs) :
    Run tab 29 0 [.ptr b 1 0 0, .sl o 1 (l.map .str)] h n (fun r h' n' => r = .tup [] ∧ Row h' n' b (addC rs l) ∧ n ≤ n') := by
  have h1 := hok.1
  obtain ⟨hb, hn, hR⟩ := hR
  refine enter (F := f29) rfl rfl ?_
  simp only [f29, ex,reduceIte,reduceCtorEq,Nat.reduceEqDiff,Nat.reduceLT,Nat.reduceLeDiff,Nat.reduceAdd,Nat.reduceSub,Nat.reduceMul,Int.reduceAdd,Int.reduceSub,Int.reduceMul,Int.reduceNeg,Int.reduceLE,Int.reduceLT,Int.reduceEq,Int.reduceToNat]
  rcases Classical.em (l = []) with e | e
  · subst e
    have d1 : decide (((([] : List Sx).length : Nat) : Int) = 0) = true := by decide
    have a1 : addC rs [] = rs := by simp [addC]
    rw [a1]
    (try simp only [d1, ex,reduceIte,reduceCtorEq,Nat.reduceEqDiff,Nat.reduceLT,Nat.reduceLeDiff,Nat.reduceAdd,Nat.reduceSub,Nat.reduceMul,Int.reduceAdd,Int.reduceSub,Int.reduceMul,Int.reduceNeg,Int.reduceLE,Int.reduceLT,Int.reduceEq,Int.reduceToNat]) <;> repeat ((with_reducible refine Req.intro ?_ ?_); (first | omega | (simp <;> omega)); try simp only [d1, ex,reduceIte,reduceCtorEq,Nat.reduceEqDiff,Nat.reduceLT,Nat.reduceLeDiff,Nat.reduceAdd,Nat.reduceSub,Nat.reduceMul,Int.reduceAdd,Int.reduceSub,Int.reduceMul,Int.reduceNeg,Int.reduceLE,Int.reduceLT,Int.reduceEq,Int.reduceToNat])
    exact ⟨rfl, hb, hn, hR⟩
  · have hp : 0 < l.length := List.length_pos_iff.2 e
    have d1 : decide ((l.length : Int) = 0) = false := by simp; omega
    rcases hR with ⟨e2, g1⟩ | ⟨c, c1, c2, c3, g1, g2⟩
    · subst e2
      have a1 : addC [] l = [⟨1, l, [], [], []⟩] := by simp [addC, e]
      rw [a1]
      have d2 : decide (((0 : Nat) : Int) > 0) = false := by decide
      (try simp only [d1, g1, d2, ex,reduceIte,reduceCtorEq,Nat.reduceEqDiff,Nat.reduceLT,Nat.reduceLeDiff,Nat.reduceAdd,Nat.reduceSub,Nat.reduceMul,Int.reduceAdd,Int.reduceSub,Int.reduceMul,Int.reduceNeg,Int.reduceLE,Int.reduceLT,Int.reduceEq,Int.reduceToNat]) <;> repeat ((with_reducible refine Req.intro ?_ ?_); (first | omega | (simp <;> omega)); try simp only [d1, g1, d2, ex,reduceIte,reduceCtorEq,Nat.reduceEqDiff,Nat.reduceLT,Nat.reduceLeDiff,Nat.reduceAdd,Nat.reduceSub,Nat.reduceMul,Int.reduceAdd,Int.reduceSub,Int.reduceMul,Int.reduceNeg,Int.reduceLE,Int.reduceLT,Int.reduceEq,Int.reduceToNat])
      refine CallD.eq rfl (clone_spec o l hl) rfl ?_
      have n1 := hn n (Nat.le_refl _)
      have s1 : ∀ x y, get (set (del (set h n x) n) (n + 1) y) b = some (.rows 1 [.agg [.hs 0 0 0 0]]) := fun x y => by rw [get_set_other (by omega), get_del_other1 _ (by omega), get_set_other (by omega), g1]
      (try simp only [n1, hf_appM, apM_rows, appL_nil, get_set_same, s1, ex,reduceIte,reduceCtorEq,Nat.reduceEqDiff,Nat.reduceLT,Nat.reduceLeDiff,Nat.reduceAdd,Nat.reduceSub,Nat.reduceMul,Int.reduceAdd,Int.reduceSub,Int.reduceMul,Int.reduceNeg,Int.reduceLE,Int.reduceLT,Int.reduceEq,Int.reduceToNat]) <;> repeat ((with_reducible refine Req.intro ?_ ?_); (first | omega | (simp <;> omega)); try simp only [n1, hf_appM, apM_rows, appL_nil, get_set_same, s1, ex,reduceIte,reduceCtorEq,Nat.reduceEqDiff,Nat.reduceLT,Nat.reduceLeDiff,Nat.reduceAdd,Nat.reduceSub,Nat.reduceMul,Int.reduceAdd,Int.reduceSub,Int.reduceMul,Int.reduceNeg,Int.reduceLE,Int.reduceLT,Int.reduceEq,Int.reduceToNat])
      refine ⟨rfl, ⟨by omega, fun k hk => ?_, .inr ⟨n + 1, by omega, by omega, by simp, get_set_same, ?_⟩⟩, by omega⟩
      · rw [get_set_other (by omega), get_set_other (by omega), get_del_other1 _ (by omega), get_set_other (by omega)]
        exact hn k (by omega)
      · rw [get_set_other (by omega), get_set_same]
        rfl
    · rcases List.eq_nil_or_concat rs with q | ⟨qs, r, q⟩
      · subst q; simp at c3
      · rw [List.concat_eq_append] at q
        subst q
        have hq : (qs ++ [r]).length = qs.length + 1 := by simp
        have d2 : decide (((qs.length + 1 : Nat) : Int) > 0) = true := by simp only [decide_eq_true_iff]; omega
        have t1 : (((qs.length + 1 : Nat) : Int) - 1).toNat = qs.length := by omega
        rw [hq] at g1
        have g3 : ((qs ++ [r]).map rgO)[qs.length]? = some (rgO r) := by simp
        have hr := hok.2 r (by simp)
        have hc : (rgO r).cells = [.int .i64 r.k, .sl (decide (r.k = 1)) 1 (r.l.map .str), .sl (decide (r.k = 1)) 1 (r.o.map .str), .sl (decide (r.k = 1)) 1 (r.b.map .str), .sl (decide (r.k = 1)) 1 (r.t.map .str)] := rfl
        rcases Classical.em (r.k = 1) with u | u
        · have d3 : decide (r.k = 1) = true := decide_eq_true u
          have a1 : addC (qs ++ [r]) l = qs ++ [{ r with l := r.l ++ l }] := by simp [addC, e, u]
          rw [a1]
          have rO : rgO r = .agg [.int .i64 r.k, .sl true 1 (r.l.map .str), .sl true 1 (r.o.map .str), .sl true 1 (r.b.map .str), .sl true 1 (r.t.map .str)] := by unfold rgO; rw [d3]
          have s3 : ∀ x, (((qs ++ [r]).map rgO).set qs.length x)[qs.length]? = some x := fun x => List.getElem?_set_self (by simp)
          have s4 : ∀ x y, (((qs ++ [r]).map rgO).set qs.length x).set qs.length y = qs.map rgO ++ [y] := fun x y => by
            rw [List.set_set, List.map_append, show qs.length = (qs.map rgO).length by simp, List.set_append_right _ _ (Nat.le_refl _)]
            simp
          (try simp only [d1, g1, g2, g3, d2, t1, hc, d3, hq, rO, get_set_same, s3, s4, ex,reduceIte,reduceCtorEq,Nat.reduceEqDiff,Nat.reduceLT,Nat.reduceLeDiff,Nat.reduceAdd,Nat.reduceSub,Nat.reduceMul,Int.reduceAdd,Int.reduceSub,Int.reduceMul,Int.reduceNeg,Int.reduceLE,Int.reduceLT,Int.reduceEq,Int.reduceToNat]) <;> repeat ((with_reducible refine Req.intro ?_ ?_); (first | omega | (simp <;> omega)); try simp only [d1, g1, g2, g3, d2, t1, hc, d3, hq, rO, get_set_same, s3, s4, ex,reduceIte,reduceCtorEq,Nat.reduceEqDiff,Nat.reduceLT,Nat.reduceLeDiff,Nat.reduceAdd,Nat.reduceSub,Nat.reduceMul,Int.reduceAdd,Int.reduceSub,Int.reduceMul,Int.reduceNeg,Int.reduceLE,Int.reduceLT,Int.reduceEq,Int.reduceToNat])
          refine ⟨rfl, by omega, fun k hk => ?_, .inr ⟨c, by omega, c2, by simp, ?_, ?_⟩⟩
          · rw [get_set_other (by omega), get_set_other (by omega)]
            exact hn k (by omega)
          · rw [get_set_other (by omega), get_set_other (by omega), g1]
            simp
          · rw [get_set_same]
            simp [rgO, u]
        · have d3 : decide (r.k = 1) = false := decide_eq_false u
          have a1 : addC (qs ++ [r]) l = qs ++ [r] ++ [⟨1, l, [], [], []⟩] := by simp [addC, e, u]
          rw [a1]
          (try simp only [d1, g1, g2, g3, d2, t1, hc, d3, hq, ex,reduceIte,reduceCtorEq,Nat.reduceEqDiff,Nat.reduceLT,Nat.reduceLeDiff,Nat.reduceAdd,Nat.reduceSub,Nat.reduceMul,Int.reduceAdd,Int.reduceSub,Int.reduceMul,Int.reduceNeg,Int.reduceLE,Int.reduceLT,Int.reduceEq,Int.reduceToNat]) <;> repeat ((with_reducible refine Req.intro ?_ ?_); (first | omega | (simp <;> omega)); try simp only [d1, g1, g2, g3, d2, t1, hc, d3, hq, ex,reduceIte,reduceCtorEq,Nat.reduceEqDiff,Nat.reduceLT,Nat.reduceLeDiff,Nat.reduceAdd,Nat.reduceSub,Nat.reduceMul,Int.reduceAdd,Int.reduceSub,Int.reduceMul,Int.reduceNeg,Int.reduceLE,Int.reduceLT,Int.reduceEq,Int.reduceToNat])
          refine CallD.eq rfl (clone_spec o l hl) rfl ?_
          have n1 := hn n (Nat.le_refl _)
          have s1 : ∀ x, get (del (set h n x) n) c = some (.rows 5 ((qs ++ [r]).map rgO)) := fun x => by rw [get_del_other1 _ (by omega), get_set_other (by omega), g2]
          have s2 : ∀ x y, get (set (del (del (set h n x) n) c) (n + 1) y) b = some (.rows 1 [.agg [.hs c 5 0 (qs.length + 1)]]) := fun x y => by rw [get_set_other (by omega), get_del_other1 _ (by omega), get_del_other1 _ (by omega), get_set_other (by omega), g1]
          have hq2 : ((qs ++ [r]).map rgO).length = qs.length + 1 := by simp
          have hq3 : ((qs ++ [r]).map rgO).take (qs.length + 1) = (qs ++ [r]).map rgO := List.take_of_length_le (by omega)
          (try simp only [n1, hf_appM, apM_rows, appL_put, apL_rows, get_set_same, s1, s2, hq2, hq3, ex,reduceIte,reduceCtorEq,Nat.reduceEqDiff,Nat.reduceLT,Nat.reduceLeDiff,Nat.reduceAdd,Nat.reduceSub,Nat.reduceMul,Int.reduceAdd,Int.reduceSub,Int.reduceMul,Int.reduceNeg,Int.reduceLE,Int.reduceLT,Int.reduceEq,Int.reduceToNat]) <;> repeat ((with_reducible refine Req.intro ?_ ?_); (first | omega | (simp <;> omega)); try simp only [n1, hf_appM, apM_rows, appL_put, apL_rows, get_set_same, s1, s2, hq2, hq3, ex,reduceIte,reduceCtorEq,Nat.reduceEqDiff,Nat.reduceLT,Nat.reduceLeDiff,Nat.reduceAdd,Nat.reduceSub,Nat.reduceMul,Int.reduceAdd,Int.reduceSub,Int.reduceMul,Int.reduceNeg,Int.reduceLE,Int.reduceLT,Int.reduceEq,Int.reduceToNat])
          refine ⟨rfl, ⟨by omega, fun k hk => ?_, .inr ⟨n + 1, by omega, by omega, by simp, ?_, ?_⟩⟩, by omega⟩
          · rw [get_set_other (by omega), get_set_other (by omega), get_del_other1 _ (by omega), get_del_other1 _ (by omega), get_set_other (by omega)]
            exact hn k (by omega)
          · rw [get_set_same]
            simp
          · rw [get_set_other (by omega), get_set_same]
            simp [rgO]
end Go.Proofs.Ytnodepfoahmcmaa.E.Hs

/- Chapter 12: parsing, in plain terms. Conditions: none. -/
namespace Go.Proofs.Ytnodepfoahmcmaa.E.Hs
set_option linter.unusedVariables false
set_option linter.unusedSimpArgs false
set_option maxHeartbeats 20000000
set_option maxRecDepth 100000

/-- One line more: what is laid, the state, the conflict at work. -/
def stP (l : Sx) (rs : List Rg) (a : Int) (p : Rg) : Option (List Rg × Int × Rg) :=
  if markK l = 0 then some (if a = 0 then (addC rs [l], a, p) else if a = 1 then (rs, a, ⟨p.k, p.l, p.o ++ [l], p.b, p.t⟩) else if a = 2 then (rs, a, ⟨p.k, p.l, p.o, p.b ++ [l], p.t⟩) else (rs, a, ⟨p.k, p.l, p.o, p.b, p.t ++ [l]⟩))
  else if markK l = 1 then (if a = 0 then some (rs, 1, ⟨2, [], [], [], []⟩) else none)
  else if markK l = 2 then (if a = 1 then some (rs, 2, p) else none)
  else if markK l = 3 then (if a = 1 ∨ a = 2 then some (rs, 3, p) else none)
  else if a = 3 then some (rs ++ [p], 0, p) else none
def parL : List Sx → List Rg → Int → Rg → Option (List Rg)
  | [], rs, a, p => if a = 0 then some rs else none
  | l :: t, rs, a, p => match stP l rs a p with
    | none => none
    | some q => parL t q.1 q.2.1 q.2.2
def p0 : Rg := ⟨0, [], [], [], []⟩
def parR (s : Sx) : Option (List Rg) := parL (lns s) [] 0 p0
def outP (f : Bool) : Option (List Rg) → V
  | some rs => .tup [.sl f 5 (rs.map rgV), .int .i64 0]
  | none => .tup [.sl true 5 [], .int .i64 2]
theorem markK_cases (s : Sx) : markK s = 0 ∨ markK s = 1 ∨ markK s = 2 ∨ markK s = 3 ∨ markK s = 4 := by
  unfold markK
  repeat' split
  all_goals simp
/-- No more than i lines. -/
def Sz (i : Nat) (r : Rg) : Prop := r.l.length ≤ i ∧ r.o.length ≤ i ∧ r.b.length ≤ i ∧ r.t.length ≤ i
def SzL (i : Nat) (rs : List Rg) : Prop := rs.length ≤ i ∧ ∀ r ∈ rs, Sz i r
theorem Sz.up {i j : Nat} {r : Rg} (h : Sz i r) (hi : i ≤ j) : Sz j r := by unfold Sz at *; omega
theorem SzL.up {i j : Nat} {rs : List Rg} (h : SzL i rs) (hi : i ≤ j) : SzL j rs := ⟨by have := h.1; omega, fun r hr => (h.2 r hr).up hi⟩
theorem SzL.snoc {i : Nat} {rs : List Rg} {r : Rg} (h : SzL i rs) (hr : Sz (i + 1) r) : SzL (i + 1) (rs ++ [r]) := by
  refine ⟨by have := h.1; simp; omega, fun x hx => ?_⟩
  rcases List.mem_append.1 hx with hx | hx
  · exact (h.2 x hx).up (by omega)
  · rw [List.mem_singleton.1 hx]; exact hr
theorem addC_step (rs : List Rg) (l : List Sx) (hl : l ≠ []) : (rs = [] ∧ addC rs l = [⟨1, l, [], [], []⟩]) ∨ ∃ qs r, rs = qs ++ [r] ∧ ((r.k = 1 ∧ addC rs l = qs ++ [⟨r.k, r.l ++ l, r.o, r.b, r.t⟩]) ∨ (r.k ≠ 1 ∧ addC rs l = qs ++ [r] ++ [⟨1, l, [], [], []⟩])) := by
  rcases List.eq_nil_or_concat rs with q | ⟨qs, r, q⟩
  · subst q; exact .inl ⟨rfl, by simp [addC, hl]⟩
  · rw [List.concat_eq_append] at q
    subst q
    refine .inr ⟨qs, r, rfl, ?_⟩
    rcases Classical.em (r.k = 1) with c | c
    · exact .inl ⟨c, by simp [addC, hl, c]⟩
    · exact .inr ⟨c, by simp [addC, hl, c]⟩
theorem SzL.addC {i : Nat} {rs : List Rg} {l : Sx} (h : SzL i rs) : SzL (i + 1) (addC rs [l]) := by
  have one : Sz (i + 1) ⟨1, [l], [], [], []⟩ := by unfold Sz; simp
  rcases addC_step rs [l] (by simp) with ⟨e, q⟩ | ⟨qs, r, e, ⟨c, q⟩ | ⟨c, q⟩⟩
  · rw [q]; exact SzL.snoc (rs := []) ⟨by simp, by simp⟩ one
  · rw [q]
    subst e
    have hr := h.2 r (by simp)
    refine ⟨by have := h.1; simp at this ⊢; omega, fun x hx => ?_⟩
    rcases List.mem_append.1 hx with hx | hx
    · exact (h.2 x (by simp [hx])).up (by omega)
    · rw [List.mem_singleton.1 hx]
      unfold Sz at hr ⊢
      simp; omega
  · rw [q]; subst e; exact h.snoc one
theorem SzL.ok {i : Nat} {rs : List Rg} (h : SzL i rs) (hi : i ≤ 10000) : OkR rs := ⟨by have := h.1; omega, fun r hr => by
  have := h.2 r hr
  unfold Sz at this; omega⟩
theorem stP_sz {l : Sx} {rs : List Rg} {a : Int} {p : Rg} {q : List Rg × Int × Rg} {i : Nat} (h : stP l rs a p = some q) (h1 : SzL i rs) (h2 : Sz i p) : SzL (i + 1) q.1 ∧ Sz (i + 1) q.2.2 := by
  unfold stP at h
  have u1 := h1.up (Nat.le_succ i)
  have u2 := h2.up (Nat.le_succ i)
  have hs : ∀ m : Nat, m ≤ i → ∀ t : List Sx, t.length ≤ i → (t ++ [l]).length ≤ i + 1 := fun _ _ t ht => by simp; omega
  unfold Sz at h2
  split at h
  · injection h with h
    subst h
    split
    · exact ⟨h1.addC, u2⟩
    · split
      · exact ⟨u1, by unfold Sz; simp; omega⟩
      · split
        · exact ⟨u1, by unfold Sz; simp; omega⟩
        · exact ⟨u1, by unfold Sz; simp; omega⟩
  · split at h
    · split at h
      · injection h with h; subst h; exact ⟨u1, by unfold Sz; simp⟩
      · cases h
    · split at h
      · split at h
        · injection h with h; subst h; exact ⟨u1, u2⟩
        · cases h
      · split at h
        · split at h
          · injection h with h; subst h; exact ⟨u1, u2⟩
          · cases h
        · split at h
          · injection h with h; subst h; exact ⟨h1.snoc u2, u2⟩
          · cases h
theorem stP_at {l : Sx} {rs : List Rg} {a : Int} {p : Rg} {q : List Rg × Int × Rg} (h : stP l rs a p = some q) (ha : a = 0 ∨ a = 1 ∨ a = 2 ∨ a = 3) : q.2.1 = 0 ∨ q.2.1 = 1 ∨ q.2.1 = 2 ∨ q.2.1 = 3 := by
  unfold stP at h
  split at h
  · injection h with h
    subst h
    repeat' split
    all_goals exact ha
  · repeat' split at h
    all_goals first | (cases h; done) | (injection h with h; subst h; simp)
theorem lnG_el : ∀ (s cur x : Sx), x ∈ lnG cur s → x.length ≤ cur.length + s.length
  | [], cur, x, h => by
    unfold lnG at h
    split at h
    · simp at h
    · simp at h; subst h; simp
  | c :: s, cur, x, h => by
    unfold lnG at h
    split at h
    · rcases List.mem_cons.1 h with h | h
      · subst h; simp only [List.length_append, List.length_cons, List.length_nil]; omega
      · have := lnG_el s [] x h
        simp at this ⊢; omega
    · have := lnG_el s (cur ++ [c]) x h
      simp at this ⊢; omega
theorem noH_O : ∀ rs : List Rg, (rs.map rgO).all noH2 = true
  | [] => rfl
  | r :: rs => by simp only [List.map_cons, List.all_cons, noH_O rs, Bool.and_true]; rfl
theorem clr_O (rs : List Rg) : (rs.map rgO).map clr2 = rs.map rgV := by rw [List.map_map]; rfl
theorem frz_nil {h : Heap} {b n : Nat} {k : V × Heap × Nat → Prop} {t : Tag k} : WK (E.hf (.frz 5) [.hs b 0 0 0] h n) k t = k (.sl false 5 [], h, 0) := rfl
theorem frz_rs {h : Heap} {c : Nat} {rs : List Rg} {k : V × Heap × Nat → Prop} (g : get h c = some (.rows 5 (rs.map rgO))) : frB h c 5 0 rs.length k = k (.sl false 5 (rs.map rgV), del h c, 0) := by
  unfold frB
  simp only [E.hf, g]
  rw [if_neg (by decide), if_pos trivial, if_pos ⟨trivial, by simp, noH_O rs⟩, List.drop_zero, List.take_of_length_le (by simp), clr_O]
  rfl
theorem lits : (decide ((0 : Int) = 0) = true) ∧ (decide ((0 : Int) = 1) = false) ∧ (decide ((0 : Int) = 2) = false) ∧ (decide ((0 : Int) = 3) = false) ∧ (decide ((0 : Int) = 4) = false) ∧
    (decide ((1 : Int) = 0) = false) ∧ (decide ((1 : Int) = 1) = true) ∧ (decide ((1 : Int) = 2) = false) ∧ (decide ((1 : Int) = 3) = false) ∧ (decide ((1 : Int) = 4) = false) ∧
    (decide ((2 : Int) = 0) = false) ∧ (decide ((2 : Int) = 1) = false) ∧ (decide ((2 : Int) = 2) = true) ∧ (decide ((2 : Int) = 3) = false) ∧ (decide ((2 : Int) = 4) = false) ∧
    (decide ((3 : Int) = 0) = false) ∧ (decide ((3 : Int) = 1) = false) ∧ (decide ((3 : Int) = 2) = false) ∧ (decide ((3 : Int) = 3) = true) ∧ (decide ((3 : Int) = 4) = false) ∧
    (decide ((4 : Int) = 0) = false) ∧ (decide ((4 : Int) = 1) = false) ∧ (decide ((4 : Int) = 2) = false) ∧ (decide ((4 : Int) = 3) = false) ∧ (decide ((4 : Int) = 4) = true) := by decide
end Go.Proofs.Ytnodepfoahmcmaa.E.Hs

/- Chapter 12: Parse of both. Conditions: none. -/
namespace Go.Proofs.Ytnodepfoahmcmaa.E.Hs
set_option linter.unusedVariables false
set_option linter.unusedSimpArgs false
set_option maxHeartbeats 20000000
set_option maxRecDepth 100000

def pV (f : Bool) (p : Rg) : List V := [.int .i64 p.k, .sl f 1 (p.l.map .str), .sl f 1 (p.o.map .str), .sl f 1 (p.b.map .str), .sl f 1 (p.t.map .str)]
theorem parse1_spec (s : Sx) (hs : s.length ≤ 3000) : Run tab 21 0 [.str s] [] 0 (fun r _ _ => r = outP false (parR s)) := by
  have hnl := lnG_len s []
  have hln : ∀ x ∈ lns s, x.length ≤ 1000000 := fun x hx => by
    have := lnG_el s [] x hx
    simp at this; omega
  refine enter (F := f21) rfl rfl ?_
  simp only [f21, ex,reduceIte,reduceCtorEq,Nat.reduceEqDiff,Nat.reduceLT,Nat.reduceLeDiff,Nat.reduceAdd,Nat.reduceSub,Nat.reduceMul,Int.reduceAdd,Int.reduceSub,Int.reduceMul,Int.reduceNeg,Int.reduceLE,Int.reduceLT,Int.reduceEq,Int.reduceToNat]
  (try simp only [ex,reduceIte,reduceCtorEq,Nat.reduceEqDiff,Nat.reduceLT,Nat.reduceLeDiff,Nat.reduceAdd,Nat.reduceSub,Nat.reduceMul,Int.reduceAdd,Int.reduceSub,Int.reduceMul,Int.reduceNeg,Int.reduceLE,Int.reduceLT,Int.reduceEq,Int.reduceToNat]) <;> repeat ((with_reducible refine Req.intro ?_ ?_); (first | omega | (simp <;> omega)); try simp only [ex,reduceIte,reduceCtorEq,Nat.reduceEqDiff,Nat.reduceLT,Nat.reduceLeDiff,Nat.reduceAdd,Nat.reduceSub,Nat.reduceMul,Int.reduceAdd,Int.reduceSub,Int.reduceMul,Int.reduceNeg,Int.reduceLE,Int.reduceLT,Int.reduceEq,Int.reduceToNat])
  refine CallA.eq rfl (split_spec s (by omega)) rfl ?_
  unfold parR
  generalize hls : lns s = ls at *
  have hnl : ls.length ≤ 3001 := by rw [← hls]; show (lnG [] s).length ≤ 3001; omega
  clear hls
  generalize hres : parL ls [] 0 p0 = res
  (try simp only [ex,reduceIte,reduceCtorEq,Nat.reduceEqDiff,Nat.reduceLT,Nat.reduceLeDiff,Nat.reduceAdd,Nat.reduceSub,Nat.reduceMul,Int.reduceAdd,Int.reduceSub,Int.reduceMul,Int.reduceNeg,Int.reduceLE,Int.reduceLT,Int.reduceEq,Int.reduceToNat]) <;> repeat ((with_reducible refine Req.intro ?_ ?_); (first | omega | (simp <;> omega)); try simp only [ex,reduceIte,reduceCtorEq,Nat.reduceEqDiff,Nat.reduceLT,Nat.reduceLeDiff,Nat.reduceAdd,Nat.reduceSub,Nat.reduceMul,Int.reduceAdd,Int.reduceSub,Int.reduceMul,Int.reduceNeg,Int.reduceLE,Int.reduceLT,Int.reduceEq,Int.reduceToNat])
  refine loopI fun L hL => ?_
  (try simp only [ex,reduceIte,reduceCtorEq,Nat.reduceEqDiff,Nat.reduceLT,Nat.reduceLeDiff,Nat.reduceAdd,Nat.reduceSub,Nat.reduceMul,Int.reduceAdd,Int.reduceSub,Int.reduceMul,Int.reduceNeg,Int.reduceLE,Int.reduceLT,Int.reduceEq,Int.reduceToNat]) <;> repeat ((with_reducible refine Req.intro ?_ ?_); (first | omega | (simp <;> omega)); try simp only [ex,reduceIte,reduceCtorEq,Nat.reduceEqDiff,Nat.reduceLT,Nat.reduceLeDiff,Nat.reduceAdd,Nat.reduceSub,Nat.reduceMul,Int.reduceAdd,Int.reduceSub,Int.reduceMul,Int.reduceNeg,Int.reduceLE,Int.reduceLT,Int.reduceEq,Int.reduceToNat])
  have key : ∀ (m i n : Nat) (a : Int) (p : Rg) (rs : List Rg) (f : Bool) (h : Heap), i + m = ls.length → (a = 0 ∨ a = 1 ∨ a = 2 ∨ a = 3) → (a ≠ 0 → f = true) → (a ≠ 0 → p.k = 2) → SzL i rs → Sz i p → Row h n 0 rs → parL (ls.drop i) rs a p = res →
      L (L21_1 (.ptr 0 1 0 0) (.int .i64 a) (.ptr 1 5 0 0) (.sl true 1 (ls.map .str)) (.int .i64 ls.length) (.int .i64 i) 1 (pV f p) h n) := by
    intro m
    induction m with
    | zero =>
      intro i n a p rs f h hi ha hf hk h1 h2 hR he
      have k1 : decide ((i : Int) < (ls.length : Int)) = false := by simp; omega
      rw [List.drop_of_length_le (by omega), parL] at he
      obtain ⟨hb, hn, hR⟩ := hR
      rcases hR with ⟨e2, g1⟩ | ⟨c, c1, c2, c3, g1, g2⟩
      · subst e2
        rcases ha with rfl | rfl | rfl | rfl
        · rw [if_pos rfl] at he
          subst he
          apply hL
          simp only [L21_1, l21_1, ex,reduceIte,reduceCtorEq,Nat.reduceEqDiff,Nat.reduceLT,Nat.reduceLeDiff,Nat.reduceAdd,Nat.reduceSub,Nat.reduceMul,Int.reduceAdd,Int.reduceSub,Int.reduceMul,Int.reduceNeg,Int.reduceLE,Int.reduceLT,Int.reduceEq,Int.reduceToNat]
          (try simp only [k1, lits, g1, frz_nil, ex,reduceIte,reduceCtorEq,Nat.reduceEqDiff,Nat.reduceLT,Nat.reduceLeDiff,Nat.reduceAdd,Nat.reduceSub,Nat.reduceMul,Int.reduceAdd,Int.reduceSub,Int.reduceMul,Int.reduceNeg,Int.reduceLE,Int.reduceLT,Int.reduceEq,Int.reduceToNat]) <;> repeat ((with_reducible refine Req.intro ?_ ?_); (first | omega | (simp <;> omega)); try simp only [k1, lits, g1, frz_nil, ex,reduceIte,reduceCtorEq,Nat.reduceEqDiff,Nat.reduceLT,Nat.reduceLeDiff,Nat.reduceAdd,Nat.reduceSub,Nat.reduceMul,Int.reduceAdd,Int.reduceSub,Int.reduceMul,Int.reduceNeg,Int.reduceLE,Int.reduceLT,Int.reduceEq,Int.reduceToNat])
          rfl
        all_goals
          rw [if_neg (by decide)] at he
          subst he
          apply hL
          simp only [L21_1, l21_1, ex,reduceIte,reduceCtorEq,Nat.reduceEqDiff,Nat.reduceLT,Nat.reduceLeDiff,Nat.reduceAdd,Nat.reduceSub,Nat.reduceMul,Int.reduceAdd,Int.reduceSub,Int.reduceMul,Int.reduceNeg,Int.reduceLE,Int.reduceLT,Int.reduceEq,Int.reduceToNat]
          (try simp only [k1, lits, ex,reduceIte,reduceCtorEq,Nat.reduceEqDiff,Nat.reduceLT,Nat.reduceLeDiff,Nat.reduceAdd,Nat.reduceSub,Nat.reduceMul,Int.reduceAdd,Int.reduceSub,Int.reduceMul,Int.reduceNeg,Int.reduceLE,Int.reduceLT,Int.reduceEq,Int.reduceToNat]) <;> repeat ((with_reducible refine Req.intro ?_ ?_); (first | omega | (simp <;> omega)); try simp only [k1, lits, ex,reduceIte,reduceCtorEq,Nat.reduceEqDiff,Nat.reduceLT,Nat.reduceLeDiff,Nat.reduceAdd,Nat.reduceSub,Nat.reduceMul,Int.reduceAdd,Int.reduceSub,Int.reduceMul,Int.reduceNeg,Int.reduceLE,Int.reduceLT,Int.reduceEq,Int.reduceToNat])
          rfl
      · rcases ha with rfl | rfl | rfl | rfl
        · rw [if_pos rfl] at he
          subst he
          apply hL
          simp only [L21_1, l21_1, ex,reduceIte,reduceCtorEq,Nat.reduceEqDiff,Nat.reduceLT,Nat.reduceLeDiff,Nat.reduceAdd,Nat.reduceSub,Nat.reduceMul,Int.reduceAdd,Int.reduceSub,Int.reduceMul,Int.reduceNeg,Int.reduceLE,Int.reduceLT,Int.reduceEq,Int.reduceToNat]
          (try simp only [k1, lits, g1, frz_rs g2, ex,reduceIte,reduceCtorEq,Nat.reduceEqDiff,Nat.reduceLT,Nat.reduceLeDiff,Nat.reduceAdd,Nat.reduceSub,Nat.reduceMul,Int.reduceAdd,Int.reduceSub,Int.reduceMul,Int.reduceNeg,Int.reduceLE,Int.reduceLT,Int.reduceEq,Int.reduceToNat]) <;> repeat ((with_reducible refine Req.intro ?_ ?_); (first | omega | (simp <;> omega)); try simp only [k1, lits, g1, frz_rs g2, ex,reduceIte,reduceCtorEq,Nat.reduceEqDiff,Nat.reduceLT,Nat.reduceLeDiff,Nat.reduceAdd,Nat.reduceSub,Nat.reduceMul,Int.reduceAdd,Int.reduceSub,Int.reduceMul,Int.reduceNeg,Int.reduceLE,Int.reduceLT,Int.reduceEq,Int.reduceToNat])
          rfl
        all_goals
          rw [if_neg (by decide)] at he
          subst he
          apply hL
          simp only [L21_1, l21_1, ex,reduceIte,reduceCtorEq,Nat.reduceEqDiff,Nat.reduceLT,Nat.reduceLeDiff,Nat.reduceAdd,Nat.reduceSub,Nat.reduceMul,Int.reduceAdd,Int.reduceSub,Int.reduceMul,Int.reduceNeg,Int.reduceLE,Int.reduceLT,Int.reduceEq,Int.reduceToNat]
          (try simp only [k1, lits, ex,reduceIte,reduceCtorEq,Nat.reduceEqDiff,Nat.reduceLT,Nat.reduceLeDiff,Nat.reduceAdd,Nat.reduceSub,Nat.reduceMul,Int.reduceAdd,Int.reduceSub,Int.reduceMul,Int.reduceNeg,Int.reduceLE,Int.reduceLT,Int.reduceEq,Int.reduceToNat]) <;> repeat ((with_reducible refine Req.intro ?_ ?_); (first | omega | (simp <;> omega)); try simp only [k1, lits, ex,reduceIte,reduceCtorEq,Nat.reduceEqDiff,Nat.reduceLT,Nat.reduceLeDiff,Nat.reduceAdd,Nat.reduceSub,Nat.reduceMul,Int.reduceAdd,Int.reduceSub,Int.reduceMul,Int.reduceNeg,Int.reduceLE,Int.reduceLT,Int.reduceEq,Int.reduceToNat])
          rfl
    | succ m ih =>
      intro i n a p rs f h hi ha hf hk h1 h2 hR he
      have k1 : decide ((i : Int) < (ls.length : Int)) = true := by simp; omega
      have g1 : ls[i]? = some (ls[i]'(by omega)) := List.getElem?_eq_getElem _
      have hm : ls[i]'(by omega) ∈ ls := List.getElem_mem _
      rw [List.drop_eq_getElem_cons (by omega), parL] at he
      generalize ls[i]'(by omega) = l at *
      have hl := hln l hm
      have tk := tmark_spec l hl
      have hc := markK_cases l
      have hmk : ∃ k, k = markK l := ⟨_, rfl⟩
      obtain ⟨mk, hmk⟩ := hmk
      rw [← hmk] at tk hc
      rcases hc with rfl | rfl | rfl | rfl | rfl
      · rcases ha with rfl | rfl | rfl | rfl
        · have hq : stP l rs 0 p = some (addC rs [l], 0, p) := by simp [stP, ← hmk]
          rw [hq] at he
          have z := stP_sz hq h1 h2
          have bz := h2
          unfold Sz at bz
          apply hL
          simp only [L21_1, l21_1, pV, ex,reduceIte,reduceCtorEq,Nat.reduceEqDiff,Nat.reduceLT,Nat.reduceLeDiff,Nat.reduceAdd,Nat.reduceSub,Nat.reduceMul,Int.reduceAdd,Int.reduceSub,Int.reduceMul,Int.reduceNeg,Int.reduceLE,Int.reduceLT,Int.reduceEq,Int.reduceToNat]
          (try simp only [k1, g1, ex,reduceIte,reduceCtorEq,Nat.reduceEqDiff,Nat.reduceLT,Nat.reduceLeDiff,Nat.reduceAdd,Nat.reduceSub,Nat.reduceMul,Int.reduceAdd,Int.reduceSub,Int.reduceMul,Int.reduceNeg,Int.reduceLE,Int.reduceLT,Int.reduceEq,Int.reduceToNat]) <;> repeat ((with_reducible refine Req.intro ?_ ?_); (first | omega | (simp <;> omega)); try simp only [k1, g1, ex,reduceIte,reduceCtorEq,Nat.reduceEqDiff,Nat.reduceLT,Nat.reduceLeDiff,Nat.reduceAdd,Nat.reduceSub,Nat.reduceMul,Int.reduceAdd,Int.reduceSub,Int.reduceMul,Int.reduceNeg,Int.reduceLE,Int.reduceLT,Int.reduceEq,Int.reduceToNat])
          refine CallA.eq rfl tk rfl ?_
          (try simp only [k1, g1, lits, ex,reduceIte,reduceCtorEq,Nat.reduceEqDiff,Nat.reduceLT,Nat.reduceLeDiff,Nat.reduceAdd,Nat.reduceSub,Nat.reduceMul,Int.reduceAdd,Int.reduceSub,Int.reduceMul,Int.reduceNeg,Int.reduceLE,Int.reduceLT,Int.reduceEq,Int.reduceToNat]) <;> repeat ((with_reducible refine Req.intro ?_ ?_); (first | omega | (simp <;> omega)); try simp only [k1, g1, lits, ex,reduceIte,reduceCtorEq,Nat.reduceEqDiff,Nat.reduceLT,Nat.reduceLeDiff,Nat.reduceAdd,Nat.reduceSub,Nat.reduceMul,Int.reduceAdd,Int.reduceSub,Int.reduceMul,Int.reduceNeg,Int.reduceLE,Int.reduceLT,Int.reduceEq,Int.reduceToNat])
          refine CallH.any (row_clean _ rs [l] h n 0 (h1.ok (by omega)) (by simp) hR) ?_
          intro r h' n' hh
          have h9 := ih (i + 1) (n + (n' - n)) 0 p (addC rs [l]) f h' (by omega) (by decide) (fun q => (q rfl).elim) (fun q => (q rfl).elim) z.1 z.2
          (try simp only [lits, ex,reduceIte,reduceCtorEq,Nat.reduceEqDiff,Nat.reduceLT,Nat.reduceLeDiff,Nat.reduceAdd,Nat.reduceSub,Nat.reduceMul,Int.reduceAdd,Int.reduceSub,Int.reduceMul,Int.reduceNeg,Int.reduceLE,Int.reduceLT,Int.reduceEq,Int.reduceToNat]) <;> repeat ((with_reducible refine Req.intro ?_ ?_); (first | omega | (simp <;> omega)); try simp only [lits, ex,reduceIte,reduceCtorEq,Nat.reduceEqDiff,Nat.reduceLT,Nat.reduceLeDiff,Nat.reduceAdd,Nat.reduceSub,Nat.reduceMul,Int.reduceAdd,Int.reduceSub,Int.reduceMul,Int.reduceNeg,Int.reduceLE,Int.reduceLT,Int.reduceEq,Int.reduceToNat])
          have y := hh.2.1
          have y2 := hh.2.2
          clear hh
          rw [← show n + (n' - n) = n' by omega] at y
          exact h9 y he
        · have hq : stP l rs 1 p = some (rs, 1, ⟨p.k, p.l, p.o ++ [l], p.b, p.t⟩) := by simp [stP, ← hmk]
          rw [hq] at he
          have z := stP_sz hq h1 h2
          have bz := h2
          unfold Sz at bz
          have ef := hf (by decide)
          subst ef
          have h9 := ih (i + 1) n 1 ⟨p.k, p.l, p.o ++ [l], p.b, p.t⟩ (rs) true h (by omega) (by decide) (fun _ => rfl) (fun _ => hk (by decide)) z.1 z.2 hR he
          simp only [pV, List.map_append, List.map_cons, List.map_nil] at h9
          apply hL
          simp only [L21_1, l21_1, pV, ex,reduceIte,reduceCtorEq,Nat.reduceEqDiff,Nat.reduceLT,Nat.reduceLeDiff,Nat.reduceAdd,Nat.reduceSub,Nat.reduceMul,Int.reduceAdd,Int.reduceSub,Int.reduceMul,Int.reduceNeg,Int.reduceLE,Int.reduceLT,Int.reduceEq,Int.reduceToNat]
          (try simp only [k1, g1, ex,reduceIte,reduceCtorEq,Nat.reduceEqDiff,Nat.reduceLT,Nat.reduceLeDiff,Nat.reduceAdd,Nat.reduceSub,Nat.reduceMul,Int.reduceAdd,Int.reduceSub,Int.reduceMul,Int.reduceNeg,Int.reduceLE,Int.reduceLT,Int.reduceEq,Int.reduceToNat]) <;> repeat ((with_reducible refine Req.intro ?_ ?_); (first | omega | (simp <;> omega)); try simp only [k1, g1, ex,reduceIte,reduceCtorEq,Nat.reduceEqDiff,Nat.reduceLT,Nat.reduceLeDiff,Nat.reduceAdd,Nat.reduceSub,Nat.reduceMul,Int.reduceAdd,Int.reduceSub,Int.reduceMul,Int.reduceNeg,Int.reduceLE,Int.reduceLT,Int.reduceEq,Int.reduceToNat])
          refine CallA.eq rfl tk rfl ?_
          (try simp only [k1, g1, lits, ex,reduceIte,reduceCtorEq,Nat.reduceEqDiff,Nat.reduceLT,Nat.reduceLeDiff,Nat.reduceAdd,Nat.reduceSub,Nat.reduceMul,Int.reduceAdd,Int.reduceSub,Int.reduceMul,Int.reduceNeg,Int.reduceLE,Int.reduceLT,Int.reduceEq,Int.reduceToNat]) <;> repeat ((with_reducible refine Req.intro ?_ ?_); (first | omega | (simp <;> omega)); try simp only [k1, g1, lits, ex,reduceIte,reduceCtorEq,Nat.reduceEqDiff,Nat.reduceLT,Nat.reduceLeDiff,Nat.reduceAdd,Nat.reduceSub,Nat.reduceMul,Int.reduceAdd,Int.reduceSub,Int.reduceMul,Int.reduceNeg,Int.reduceLE,Int.reduceLT,Int.reduceEq,Int.reduceToNat])
          exact h9
        · have hq : stP l rs 2 p = some (rs, 2, ⟨p.k, p.l, p.o, p.b ++ [l], p.t⟩) := by simp [stP, ← hmk]
          rw [hq] at he
          have z := stP_sz hq h1 h2
          have bz := h2
          unfold Sz at bz
          have ef := hf (by decide)
          subst ef
          have h9 := ih (i + 1) n 2 ⟨p.k, p.l, p.o, p.b ++ [l], p.t⟩ (rs) true h (by omega) (by decide) (fun _ => rfl) (fun _ => hk (by decide)) z.1 z.2 hR he
          simp only [pV, List.map_append, List.map_cons, List.map_nil] at h9
          apply hL
          simp only [L21_1, l21_1, pV, ex,reduceIte,reduceCtorEq,Nat.reduceEqDiff,Nat.reduceLT,Nat.reduceLeDiff,Nat.reduceAdd,Nat.reduceSub,Nat.reduceMul,Int.reduceAdd,Int.reduceSub,Int.reduceMul,Int.reduceNeg,Int.reduceLE,Int.reduceLT,Int.reduceEq,Int.reduceToNat]
          (try simp only [k1, g1, ex,reduceIte,reduceCtorEq,Nat.reduceEqDiff,Nat.reduceLT,Nat.reduceLeDiff,Nat.reduceAdd,Nat.reduceSub,Nat.reduceMul,Int.reduceAdd,Int.reduceSub,Int.reduceMul,Int.reduceNeg,Int.reduceLE,Int.reduceLT,Int.reduceEq,Int.reduceToNat]) <;> repeat ((with_reducible refine Req.intro ?_ ?_); (first | omega | (simp <;> omega)); try simp only [k1, g1, ex,reduceIte,reduceCtorEq,Nat.reduceEqDiff,Nat.reduceLT,Nat.reduceLeDiff,Nat.reduceAdd,Nat.reduceSub,Nat.reduceMul,Int.reduceAdd,Int.reduceSub,Int.reduceMul,Int.reduceNeg,Int.reduceLE,Int.reduceLT,Int.reduceEq,Int.reduceToNat])
          refine CallA.eq rfl tk rfl ?_
          (try simp only [k1, g1, lits, ex,reduceIte,reduceCtorEq,Nat.reduceEqDiff,Nat.reduceLT,Nat.reduceLeDiff,Nat.reduceAdd,Nat.reduceSub,Nat.reduceMul,Int.reduceAdd,Int.reduceSub,Int.reduceMul,Int.reduceNeg,Int.reduceLE,Int.reduceLT,Int.reduceEq,Int.reduceToNat]) <;> repeat ((with_reducible refine Req.intro ?_ ?_); (first | omega | (simp <;> omega)); try simp only [k1, g1, lits, ex,reduceIte,reduceCtorEq,Nat.reduceEqDiff,Nat.reduceLT,Nat.reduceLeDiff,Nat.reduceAdd,Nat.reduceSub,Nat.reduceMul,Int.reduceAdd,Int.reduceSub,Int.reduceMul,Int.reduceNeg,Int.reduceLE,Int.reduceLT,Int.reduceEq,Int.reduceToNat])
          exact h9
        · have hq : stP l rs 3 p = some (rs, 3, ⟨p.k, p.l, p.o, p.b, p.t ++ [l]⟩) := by simp [stP, ← hmk]
          rw [hq] at he
          have z := stP_sz hq h1 h2
          have bz := h2
          unfold Sz at bz
          have ef := hf (by decide)
          subst ef
          have h9 := ih (i + 1) n 3 ⟨p.k, p.l, p.o, p.b, p.t ++ [l]⟩ (rs) true h (by omega) (by decide) (fun _ => rfl) (fun _ => hk (by decide)) z.1 z.2 hR he
          simp only [pV, List.map_append, List.map_cons, List.map_nil] at h9
          apply hL
          simp only [L21_1, l21_1, pV, ex,reduceIte,reduceCtorEq,Nat.reduceEqDiff,Nat.reduceLT,Nat.reduceLeDiff,Nat.reduceAdd,Nat.reduceSub,Nat.reduceMul,Int.reduceAdd,Int.reduceSub,Int.reduceMul,Int.reduceNeg,Int.reduceLE,Int.reduceLT,Int.reduceEq,Int.reduceToNat]
          (try simp only [k1, g1, ex,reduceIte,reduceCtorEq,Nat.reduceEqDiff,Nat.reduceLT,Nat.reduceLeDiff,Nat.reduceAdd,Nat.reduceSub,Nat.reduceMul,Int.reduceAdd,Int.reduceSub,Int.reduceMul,Int.reduceNeg,Int.reduceLE,Int.reduceLT,Int.reduceEq,Int.reduceToNat]) <;> repeat ((with_reducible refine Req.intro ?_ ?_); (first | omega | (simp <;> omega)); try simp only [k1, g1, ex,reduceIte,reduceCtorEq,Nat.reduceEqDiff,Nat.reduceLT,Nat.reduceLeDiff,Nat.reduceAdd,Nat.reduceSub,Nat.reduceMul,Int.reduceAdd,Int.reduceSub,Int.reduceMul,Int.reduceNeg,Int.reduceLE,Int.reduceLT,Int.reduceEq,Int.reduceToNat])
          refine CallA.eq rfl tk rfl ?_
          (try simp only [k1, g1, lits, ex,reduceIte,reduceCtorEq,Nat.reduceEqDiff,Nat.reduceLT,Nat.reduceLeDiff,Nat.reduceAdd,Nat.reduceSub,Nat.reduceMul,Int.reduceAdd,Int.reduceSub,Int.reduceMul,Int.reduceNeg,Int.reduceLE,Int.reduceLT,Int.reduceEq,Int.reduceToNat]) <;> repeat ((with_reducible refine Req.intro ?_ ?_); (first | omega | (simp <;> omega)); try simp only [k1, g1, lits, ex,reduceIte,reduceCtorEq,Nat.reduceEqDiff,Nat.reduceLT,Nat.reduceLeDiff,Nat.reduceAdd,Nat.reduceSub,Nat.reduceMul,Int.reduceAdd,Int.reduceSub,Int.reduceMul,Int.reduceNeg,Int.reduceLE,Int.reduceLT,Int.reduceEq,Int.reduceToNat])
          exact h9
      · rcases ha with rfl | rfl | rfl | rfl
        · have hq : stP l rs 0 p = some (rs, 1, ⟨2, [], [], [], []⟩) := by simp [stP, ← hmk]
          rw [hq] at he
          have z := stP_sz hq h1 h2
          have bz := h2
          unfold Sz at bz
          have h9 := ih (i + 1) n 1 ⟨2, [], [], [], []⟩ (rs) true h (by omega) (by decide) (fun _ => rfl) (fun _ => rfl) z.1 z.2 hR he
          simp only [pV, List.map_append, List.map_cons, List.map_nil] at h9
          apply hL
          simp only [L21_1, l21_1, pV, ex,reduceIte,reduceCtorEq,Nat.reduceEqDiff,Nat.reduceLT,Nat.reduceLeDiff,Nat.reduceAdd,Nat.reduceSub,Nat.reduceMul,Int.reduceAdd,Int.reduceSub,Int.reduceMul,Int.reduceNeg,Int.reduceLE,Int.reduceLT,Int.reduceEq,Int.reduceToNat]
          (try simp only [k1, g1, ex,reduceIte,reduceCtorEq,Nat.reduceEqDiff,Nat.reduceLT,Nat.reduceLeDiff,Nat.reduceAdd,Nat.reduceSub,Nat.reduceMul,Int.reduceAdd,Int.reduceSub,Int.reduceMul,Int.reduceNeg,Int.reduceLE,Int.reduceLT,Int.reduceEq,Int.reduceToNat]) <;> repeat ((with_reducible refine Req.intro ?_ ?_); (first | omega | (simp <;> omega)); try simp only [k1, g1, ex,reduceIte,reduceCtorEq,Nat.reduceEqDiff,Nat.reduceLT,Nat.reduceLeDiff,Nat.reduceAdd,Nat.reduceSub,Nat.reduceMul,Int.reduceAdd,Int.reduceSub,Int.reduceMul,Int.reduceNeg,Int.reduceLE,Int.reduceLT,Int.reduceEq,Int.reduceToNat])
          refine CallA.eq rfl tk rfl ?_
          (try simp only [k1, g1, lits, ex,reduceIte,reduceCtorEq,Nat.reduceEqDiff,Nat.reduceLT,Nat.reduceLeDiff,Nat.reduceAdd,Nat.reduceSub,Nat.reduceMul,Int.reduceAdd,Int.reduceSub,Int.reduceMul,Int.reduceNeg,Int.reduceLE,Int.reduceLT,Int.reduceEq,Int.reduceToNat]) <;> repeat ((with_reducible refine Req.intro ?_ ?_); (first | omega | (simp <;> omega)); try simp only [k1, g1, lits, ex,reduceIte,reduceCtorEq,Nat.reduceEqDiff,Nat.reduceLT,Nat.reduceLeDiff,Nat.reduceAdd,Nat.reduceSub,Nat.reduceMul,Int.reduceAdd,Int.reduceSub,Int.reduceMul,Int.reduceNeg,Int.reduceLE,Int.reduceLT,Int.reduceEq,Int.reduceToNat])
          exact h9
        · have hq : stP l rs 1 p = none := by simp [stP, ← hmk]
          rw [hq] at he
          have he : none = res := he
          subst he
          apply hL
          simp only [L21_1, l21_1, pV, ex,reduceIte,reduceCtorEq,Nat.reduceEqDiff,Nat.reduceLT,Nat.reduceLeDiff,Nat.reduceAdd,Nat.reduceSub,Nat.reduceMul,Int.reduceAdd,Int.reduceSub,Int.reduceMul,Int.reduceNeg,Int.reduceLE,Int.reduceLT,Int.reduceEq,Int.reduceToNat]
          (try simp only [k1, g1, ex,reduceIte,reduceCtorEq,Nat.reduceEqDiff,Nat.reduceLT,Nat.reduceLeDiff,Nat.reduceAdd,Nat.reduceSub,Nat.reduceMul,Int.reduceAdd,Int.reduceSub,Int.reduceMul,Int.reduceNeg,Int.reduceLE,Int.reduceLT,Int.reduceEq,Int.reduceToNat]) <;> repeat ((with_reducible refine Req.intro ?_ ?_); (first | omega | (simp <;> omega)); try simp only [k1, g1, ex,reduceIte,reduceCtorEq,Nat.reduceEqDiff,Nat.reduceLT,Nat.reduceLeDiff,Nat.reduceAdd,Nat.reduceSub,Nat.reduceMul,Int.reduceAdd,Int.reduceSub,Int.reduceMul,Int.reduceNeg,Int.reduceLE,Int.reduceLT,Int.reduceEq,Int.reduceToNat])
          refine CallA.eq rfl tk rfl ?_
          (try simp only [k1, g1, lits, ex,reduceIte,reduceCtorEq,Nat.reduceEqDiff,Nat.reduceLT,Nat.reduceLeDiff,Nat.reduceAdd,Nat.reduceSub,Nat.reduceMul,Int.reduceAdd,Int.reduceSub,Int.reduceMul,Int.reduceNeg,Int.reduceLE,Int.reduceLT,Int.reduceEq,Int.reduceToNat]) <;> repeat ((with_reducible refine Req.intro ?_ ?_); (first | omega | (simp <;> omega)); try simp only [k1, g1, lits, ex,reduceIte,reduceCtorEq,Nat.reduceEqDiff,Nat.reduceLT,Nat.reduceLeDiff,Nat.reduceAdd,Nat.reduceSub,Nat.reduceMul,Int.reduceAdd,Int.reduceSub,Int.reduceMul,Int.reduceNeg,Int.reduceLE,Int.reduceLT,Int.reduceEq,Int.reduceToNat])
          rfl
        · have hq : stP l rs 2 p = none := by simp [stP, ← hmk]
          rw [hq] at he
          have he : none = res := he
          subst he
          apply hL
          simp only [L21_1, l21_1, pV, ex,reduceIte,reduceCtorEq,Nat.reduceEqDiff,Nat.reduceLT,Nat.reduceLeDiff,Nat.reduceAdd,Nat.reduceSub,Nat.reduceMul,Int.reduceAdd,Int.reduceSub,Int.reduceMul,Int.reduceNeg,Int.reduceLE,Int.reduceLT,Int.reduceEq,Int.reduceToNat]
          (try simp only [k1, g1, ex,reduceIte,reduceCtorEq,Nat.reduceEqDiff,Nat.reduceLT,Nat.reduceLeDiff,Nat.reduceAdd,Nat.reduceSub,Nat.reduceMul,Int.reduceAdd,Int.reduceSub,Int.reduceMul,Int.reduceNeg,Int.reduceLE,Int.reduceLT,Int.reduceEq,Int.reduceToNat]) <;> repeat ((with_reducible refine Req.intro ?_ ?_); (first | omega | (simp <;> omega)); try simp only [k1, g1, ex,reduceIte,reduceCtorEq,Nat.reduceEqDiff,Nat.reduceLT,Nat.reduceLeDiff,Nat.reduceAdd,Nat.reduceSub,Nat.reduceMul,Int.reduceAdd,Int.reduceSub,Int.reduceMul,Int.reduceNeg,Int.reduceLE,Int.reduceLT,Int.reduceEq,Int.reduceToNat])
          refine CallA.eq rfl tk rfl ?_
          (try simp only [k1, g1, lits, ex,reduceIte,reduceCtorEq,Nat.reduceEqDiff,Nat.reduceLT,Nat.reduceLeDiff,Nat.reduceAdd,Nat.reduceSub,Nat.reduceMul,Int.reduceAdd,Int.reduceSub,Int.reduceMul,Int.reduceNeg,Int.reduceLE,Int.reduceLT,Int.reduceEq,Int.reduceToNat]) <;> repeat ((with_reducible refine Req.intro ?_ ?_); (first | omega | (simp <;> omega)); try simp only [k1, g1, lits, ex,reduceIte,reduceCtorEq,Nat.reduceEqDiff,Nat.reduceLT,Nat.reduceLeDiff,Nat.reduceAdd,Nat.reduceSub,Nat.reduceMul,Int.reduceAdd,Int.reduceSub,Int.reduceMul,Int.reduceNeg,Int.reduceLE,Int.reduceLT,Int.reduceEq,Int.reduceToNat])
          rfl
        · have hq : stP l rs 3 p = none := by simp [stP, ← hmk]
          rw [hq] at he
          have he : none = res := he
          subst he
          apply hL
          simp only [L21_1, l21_1, pV, ex,reduceIte,reduceCtorEq,Nat.reduceEqDiff,Nat.reduceLT,Nat.reduceLeDiff,Nat.reduceAdd,Nat.reduceSub,Nat.reduceMul,Int.reduceAdd,Int.reduceSub,Int.reduceMul,Int.reduceNeg,Int.reduceLE,Int.reduceLT,Int.reduceEq,Int.reduceToNat]
          (try simp only [k1, g1, ex,reduceIte,reduceCtorEq,Nat.reduceEqDiff,Nat.reduceLT,Nat.reduceLeDiff,Nat.reduceAdd,Nat.reduceSub,Nat.reduceMul,Int.reduceAdd,Int.reduceSub,Int.reduceMul,Int.reduceNeg,Int.reduceLE,Int.reduceLT,Int.reduceEq,Int.reduceToNat]) <;> repeat ((with_reducible refine Req.intro ?_ ?_); (first | omega | (simp <;> omega)); try simp only [k1, g1, ex,reduceIte,reduceCtorEq,Nat.reduceEqDiff,Nat.reduceLT,Nat.reduceLeDiff,Nat.reduceAdd,Nat.reduceSub,Nat.reduceMul,Int.reduceAdd,Int.reduceSub,Int.reduceMul,Int.reduceNeg,Int.reduceLE,Int.reduceLT,Int.reduceEq,Int.reduceToNat])
          refine CallA.eq rfl tk rfl ?_
          (try simp only [k1, g1, lits, ex,reduceIte,reduceCtorEq,Nat.reduceEqDiff,Nat.reduceLT,Nat.reduceLeDiff,Nat.reduceAdd,Nat.reduceSub,Nat.reduceMul,Int.reduceAdd,Int.reduceSub,Int.reduceMul,Int.reduceNeg,Int.reduceLE,Int.reduceLT,Int.reduceEq,Int.reduceToNat]) <;> repeat ((with_reducible refine Req.intro ?_ ?_); (first | omega | (simp <;> omega)); try simp only [k1, g1, lits, ex,reduceIte,reduceCtorEq,Nat.reduceEqDiff,Nat.reduceLT,Nat.reduceLeDiff,Nat.reduceAdd,Nat.reduceSub,Nat.reduceMul,Int.reduceAdd,Int.reduceSub,Int.reduceMul,Int.reduceNeg,Int.reduceLE,Int.reduceLT,Int.reduceEq,Int.reduceToNat])
          rfl
      · rcases ha with rfl | rfl | rfl | rfl
        · have hq : stP l rs 0 p = none := by simp [stP, ← hmk]
          rw [hq] at he
          have he : none = res := he
          subst he
          apply hL
          simp only [L21_1, l21_1, pV, ex,reduceIte,reduceCtorEq,Nat.reduceEqDiff,Nat.reduceLT,Nat.reduceLeDiff,Nat.reduceAdd,Nat.reduceSub,Nat.reduceMul,Int.reduceAdd,Int.reduceSub,Int.reduceMul,Int.reduceNeg,Int.reduceLE,Int.reduceLT,Int.reduceEq,Int.reduceToNat]
          (try simp only [k1, g1, ex,reduceIte,reduceCtorEq,Nat.reduceEqDiff,Nat.reduceLT,Nat.reduceLeDiff,Nat.reduceAdd,Nat.reduceSub,Nat.reduceMul,Int.reduceAdd,Int.reduceSub,Int.reduceMul,Int.reduceNeg,Int.reduceLE,Int.reduceLT,Int.reduceEq,Int.reduceToNat]) <;> repeat ((with_reducible refine Req.intro ?_ ?_); (first | omega | (simp <;> omega)); try simp only [k1, g1, ex,reduceIte,reduceCtorEq,Nat.reduceEqDiff,Nat.reduceLT,Nat.reduceLeDiff,Nat.reduceAdd,Nat.reduceSub,Nat.reduceMul,Int.reduceAdd,Int.reduceSub,Int.reduceMul,Int.reduceNeg,Int.reduceLE,Int.reduceLT,Int.reduceEq,Int.reduceToNat])
          refine CallA.eq rfl tk rfl ?_
          (try simp only [k1, g1, lits, ex,reduceIte,reduceCtorEq,Nat.reduceEqDiff,Nat.reduceLT,Nat.reduceLeDiff,Nat.reduceAdd,Nat.reduceSub,Nat.reduceMul,Int.reduceAdd,Int.reduceSub,Int.reduceMul,Int.reduceNeg,Int.reduceLE,Int.reduceLT,Int.reduceEq,Int.reduceToNat]) <;> repeat ((with_reducible refine Req.intro ?_ ?_); (first | omega | (simp <;> omega)); try simp only [k1, g1, lits, ex,reduceIte,reduceCtorEq,Nat.reduceEqDiff,Nat.reduceLT,Nat.reduceLeDiff,Nat.reduceAdd,Nat.reduceSub,Nat.reduceMul,Int.reduceAdd,Int.reduceSub,Int.reduceMul,Int.reduceNeg,Int.reduceLE,Int.reduceLT,Int.reduceEq,Int.reduceToNat])
          rfl
        · have hq : stP l rs 1 p = some (rs, 2, p) := by simp [stP, ← hmk]
          rw [hq] at he
          have z := stP_sz hq h1 h2
          have bz := h2
          unfold Sz at bz
          have ef := hf (by decide)
          subst ef
          have h9 := ih (i + 1) n 2 p (rs) true h (by omega) (by decide) (fun _ => rfl) (fun _ => hk (by decide)) z.1 z.2 hR he
          simp only [pV, List.map_append, List.map_cons, List.map_nil] at h9
          apply hL
          simp only [L21_1, l21_1, pV, ex,reduceIte,reduceCtorEq,Nat.reduceEqDiff,Nat.reduceLT,Nat.reduceLeDiff,Nat.reduceAdd,Nat.reduceSub,Nat.reduceMul,Int.reduceAdd,Int.reduceSub,Int.reduceMul,Int.reduceNeg,Int.reduceLE,Int.reduceLT,Int.reduceEq,Int.reduceToNat]
          (try simp only [k1, g1, ex,reduceIte,reduceCtorEq,Nat.reduceEqDiff,Nat.reduceLT,Nat.reduceLeDiff,Nat.reduceAdd,Nat.reduceSub,Nat.reduceMul,Int.reduceAdd,Int.reduceSub,Int.reduceMul,Int.reduceNeg,Int.reduceLE,Int.reduceLT,Int.reduceEq,Int.reduceToNat]) <;> repeat ((with_reducible refine Req.intro ?_ ?_); (first | omega | (simp <;> omega)); try simp only [k1, g1, ex,reduceIte,reduceCtorEq,Nat.reduceEqDiff,Nat.reduceLT,Nat.reduceLeDiff,Nat.reduceAdd,Nat.reduceSub,Nat.reduceMul,Int.reduceAdd,Int.reduceSub,Int.reduceMul,Int.reduceNeg,Int.reduceLE,Int.reduceLT,Int.reduceEq,Int.reduceToNat])
          refine CallA.eq rfl tk rfl ?_
          (try simp only [k1, g1, lits, ex,reduceIte,reduceCtorEq,Nat.reduceEqDiff,Nat.reduceLT,Nat.reduceLeDiff,Nat.reduceAdd,Nat.reduceSub,Nat.reduceMul,Int.reduceAdd,Int.reduceSub,Int.reduceMul,Int.reduceNeg,Int.reduceLE,Int.reduceLT,Int.reduceEq,Int.reduceToNat]) <;> repeat ((with_reducible refine Req.intro ?_ ?_); (first | omega | (simp <;> omega)); try simp only [k1, g1, lits, ex,reduceIte,reduceCtorEq,Nat.reduceEqDiff,Nat.reduceLT,Nat.reduceLeDiff,Nat.reduceAdd,Nat.reduceSub,Nat.reduceMul,Int.reduceAdd,Int.reduceSub,Int.reduceMul,Int.reduceNeg,Int.reduceLE,Int.reduceLT,Int.reduceEq,Int.reduceToNat])
          exact h9
        · have hq : stP l rs 2 p = none := by simp [stP, ← hmk]
          rw [hq] at he
          have he : none = res := he
          subst he
          apply hL
          simp only [L21_1, l21_1, pV, ex,reduceIte,reduceCtorEq,Nat.reduceEqDiff,Nat.reduceLT,Nat.reduceLeDiff,Nat.reduceAdd,Nat.reduceSub,Nat.reduceMul,Int.reduceAdd,Int.reduceSub,Int.reduceMul,Int.reduceNeg,Int.reduceLE,Int.reduceLT,Int.reduceEq,Int.reduceToNat]
          (try simp only [k1, g1, ex,reduceIte,reduceCtorEq,Nat.reduceEqDiff,Nat.reduceLT,Nat.reduceLeDiff,Nat.reduceAdd,Nat.reduceSub,Nat.reduceMul,Int.reduceAdd,Int.reduceSub,Int.reduceMul,Int.reduceNeg,Int.reduceLE,Int.reduceLT,Int.reduceEq,Int.reduceToNat]) <;> repeat ((with_reducible refine Req.intro ?_ ?_); (first | omega | (simp <;> omega)); try simp only [k1, g1, ex,reduceIte,reduceCtorEq,Nat.reduceEqDiff,Nat.reduceLT,Nat.reduceLeDiff,Nat.reduceAdd,Nat.reduceSub,Nat.reduceMul,Int.reduceAdd,Int.reduceSub,Int.reduceMul,Int.reduceNeg,Int.reduceLE,Int.reduceLT,Int.reduceEq,Int.reduceToNat])
          refine CallA.eq rfl tk rfl ?_
          (try simp only [k1, g1, lits, ex,reduceIte,reduceCtorEq,Nat.reduceEqDiff,Nat.reduceLT,Nat.reduceLeDiff,Nat.reduceAdd,Nat.reduceSub,Nat.reduceMul,Int.reduceAdd,Int.reduceSub,Int.reduceMul,Int.reduceNeg,Int.reduceLE,Int.reduceLT,Int.reduceEq,Int.reduceToNat]) <;> repeat ((with_reducible refine Req.intro ?_ ?_); (first | omega | (simp <;> omega)); try simp only [k1, g1, lits, ex,reduceIte,reduceCtorEq,Nat.reduceEqDiff,Nat.reduceLT,Nat.reduceLeDiff,Nat.reduceAdd,Nat.reduceSub,Nat.reduceMul,Int.reduceAdd,Int.reduceSub,Int.reduceMul,Int.reduceNeg,Int.reduceLE,Int.reduceLT,Int.reduceEq,Int.reduceToNat])
          rfl
        · have hq : stP l rs 3 p = none := by simp [stP, ← hmk]
          rw [hq] at he
          have he : none = res := he
          subst he
          apply hL
          simp only [L21_1, l21_1, pV, ex,reduceIte,reduceCtorEq,Nat.reduceEqDiff,Nat.reduceLT,Nat.reduceLeDiff,Nat.reduceAdd,Nat.reduceSub,Nat.reduceMul,Int.reduceAdd,Int.reduceSub,Int.reduceMul,Int.reduceNeg,Int.reduceLE,Int.reduceLT,Int.reduceEq,Int.reduceToNat]
          (try simp only [k1, g1, ex,reduceIte,reduceCtorEq,Nat.reduceEqDiff,Nat.reduceLT,Nat.reduceLeDiff,Nat.reduceAdd,Nat.reduceSub,Nat.reduceMul,Int.reduceAdd,Int.reduceSub,Int.reduceMul,Int.reduceNeg,Int.reduceLE,Int.reduceLT,Int.reduceEq,Int.reduceToNat]) <;> repeat ((with_reducible refine Req.intro ?_ ?_); (first | omega | (simp <;> omega)); try simp only [k1, g1, ex,reduceIte,reduceCtorEq,Nat.reduceEqDiff,Nat.reduceLT,Nat.reduceLeDiff,Nat.reduceAdd,Nat.reduceSub,Nat.reduceMul,Int.reduceAdd,Int.reduceSub,Int.reduceMul,Int.reduceNeg,Int.reduceLE,Int.reduceLT,Int.reduceEq,Int.reduceToNat])
          refine CallA.eq rfl tk rfl ?_
          (try simp only [k1, g1, lits, ex,reduceIte,reduceCtorEq,Nat.reduceEqDiff,Nat.reduceLT,Nat.reduceLeDiff,Nat.reduceAdd,Nat.reduceSub,Nat.reduceMul,Int.reduceAdd,Int.reduceSub,Int.reduceMul,Int.reduceNeg,Int.reduceLE,Int.reduceLT,Int.reduceEq,Int.reduceToNat]) <;> repeat ((with_reducible refine Req.intro ?_ ?_); (first | omega | (simp <;> omega)); try simp only [k1, g1, lits, ex,reduceIte,reduceCtorEq,Nat.reduceEqDiff,Nat.reduceLT,Nat.reduceLeDiff,Nat.reduceAdd,Nat.reduceSub,Nat.reduceMul,Int.reduceAdd,Int.reduceSub,Int.reduceMul,Int.reduceNeg,Int.reduceLE,Int.reduceLT,Int.reduceEq,Int.reduceToNat])
          rfl
      · rcases ha with rfl | rfl | rfl | rfl
        · have hq : stP l rs 0 p = none := by simp [stP, ← hmk]
          rw [hq] at he
          have he : none = res := he
          subst he
          apply hL
          simp only [L21_1, l21_1, pV, ex,reduceIte,reduceCtorEq,Nat.reduceEqDiff,Nat.reduceLT,Nat.reduceLeDiff,Nat.reduceAdd,Nat.reduceSub,Nat.reduceMul,Int.reduceAdd,Int.reduceSub,Int.reduceMul,Int.reduceNeg,Int.reduceLE,Int.reduceLT,Int.reduceEq,Int.reduceToNat]
          (try simp only [k1, g1, ex,reduceIte,reduceCtorEq,Nat.reduceEqDiff,Nat.reduceLT,Nat.reduceLeDiff,Nat.reduceAdd,Nat.reduceSub,Nat.reduceMul,Int.reduceAdd,Int.reduceSub,Int.reduceMul,Int.reduceNeg,Int.reduceLE,Int.reduceLT,Int.reduceEq,Int.reduceToNat]) <;> repeat ((with_reducible refine Req.intro ?_ ?_); (first | omega | (simp <;> omega)); try simp only [k1, g1, ex,reduceIte,reduceCtorEq,Nat.reduceEqDiff,Nat.reduceLT,Nat.reduceLeDiff,Nat.reduceAdd,Nat.reduceSub,Nat.reduceMul,Int.reduceAdd,Int.reduceSub,Int.reduceMul,Int.reduceNeg,Int.reduceLE,Int.reduceLT,Int.reduceEq,Int.reduceToNat])
          refine CallA.eq rfl tk rfl ?_
          (try simp only [k1, g1, lits, ex,reduceIte,reduceCtorEq,Nat.reduceEqDiff,Nat.reduceLT,Nat.reduceLeDiff,Nat.reduceAdd,Nat.reduceSub,Nat.reduceMul,Int.reduceAdd,Int.reduceSub,Int.reduceMul,Int.reduceNeg,Int.reduceLE,Int.reduceLT,Int.reduceEq,Int.reduceToNat]) <;> repeat ((with_reducible refine Req.intro ?_ ?_); (first | omega | (simp <;> omega)); try simp only [k1, g1, lits, ex,reduceIte,reduceCtorEq,Nat.reduceEqDiff,Nat.reduceLT,Nat.reduceLeDiff,Nat.reduceAdd,Nat.reduceSub,Nat.reduceMul,Int.reduceAdd,Int.reduceSub,Int.reduceMul,Int.reduceNeg,Int.reduceLE,Int.reduceLT,Int.reduceEq,Int.reduceToNat])
          rfl
        · have hq : stP l rs 1 p = some (rs, 3, p) := by simp [stP, ← hmk]
          rw [hq] at he
          have z := stP_sz hq h1 h2
          have bz := h2
          unfold Sz at bz
          have ef := hf (by decide)
          subst ef
          have h9 := ih (i + 1) n 3 p (rs) true h (by omega) (by decide) (fun _ => rfl) (fun _ => hk (by decide)) z.1 z.2 hR he
          simp only [pV, List.map_append, List.map_cons, List.map_nil] at h9
          apply hL
          simp only [L21_1, l21_1, pV, ex,reduceIte,reduceCtorEq,Nat.reduceEqDiff,Nat.reduceLT,Nat.reduceLeDiff,Nat.reduceAdd,Nat.reduceSub,Nat.reduceMul,Int.reduceAdd,Int.reduceSub,Int.reduceMul,Int.reduceNeg,Int.reduceLE,Int.reduceLT,Int.reduceEq,Int.reduceToNat]
          (try simp only [k1, g1, ex,reduceIte,reduceCtorEq,Nat.reduceEqDiff,Nat.reduceLT,Nat.reduceLeDiff,Nat.reduceAdd,Nat.reduceSub,Nat.reduceMul,Int.reduceAdd,Int.reduceSub,Int.reduceMul,Int.reduceNeg,Int.reduceLE,Int.reduceLT,Int.reduceEq,Int.reduceToNat]) <;> repeat ((with_reducible refine Req.intro ?_ ?_); (first | omega | (simp <;> omega)); try simp only [k1, g1, ex,reduceIte,reduceCtorEq,Nat.reduceEqDiff,Nat.reduceLT,Nat.reduceLeDiff,Nat.reduceAdd,Nat.reduceSub,Nat.reduceMul,Int.reduceAdd,Int.reduceSub,Int.reduceMul,Int.reduceNeg,Int.reduceLE,Int.reduceLT,Int.reduceEq,Int.reduceToNat])
          refine CallA.eq rfl tk rfl ?_
          (try simp only [k1, g1, lits, ex,reduceIte,reduceCtorEq,Nat.reduceEqDiff,Nat.reduceLT,Nat.reduceLeDiff,Nat.reduceAdd,Nat.reduceSub,Nat.reduceMul,Int.reduceAdd,Int.reduceSub,Int.reduceMul,Int.reduceNeg,Int.reduceLE,Int.reduceLT,Int.reduceEq,Int.reduceToNat]) <;> repeat ((with_reducible refine Req.intro ?_ ?_); (first | omega | (simp <;> omega)); try simp only [k1, g1, lits, ex,reduceIte,reduceCtorEq,Nat.reduceEqDiff,Nat.reduceLT,Nat.reduceLeDiff,Nat.reduceAdd,Nat.reduceSub,Nat.reduceMul,Int.reduceAdd,Int.reduceSub,Int.reduceMul,Int.reduceNeg,Int.reduceLE,Int.reduceLT,Int.reduceEq,Int.reduceToNat])
          exact h9
        · have hq : stP l rs 2 p = some (rs, 3, p) := by simp [stP, ← hmk]
          rw [hq] at he
          have z := stP_sz hq h1 h2
          have bz := h2
          unfold Sz at bz
          have ef := hf (by decide)
          subst ef
          have h9 := ih (i + 1) n 3 p (rs) true h (by omega) (by decide) (fun _ => rfl) (fun _ => hk (by decide)) z.1 z.2 hR he
          simp only [pV, List.map_append, List.map_cons, List.map_nil] at h9
          apply hL
          simp only [L21_1, l21_1, pV, ex,reduceIte,reduceCtorEq,Nat.reduceEqDiff,Nat.reduceLT,Nat.reduceLeDiff,Nat.reduceAdd,Nat.reduceSub,Nat.reduceMul,Int.reduceAdd,Int.reduceSub,Int.reduceMul,Int.reduceNeg,Int.reduceLE,Int.reduceLT,Int.reduceEq,Int.reduceToNat]
          (try simp only [k1, g1, ex,reduceIte,reduceCtorEq,Nat.reduceEqDiff,Nat.reduceLT,Nat.reduceLeDiff,Nat.reduceAdd,Nat.reduceSub,Nat.reduceMul,Int.reduceAdd,Int.reduceSub,Int.reduceMul,Int.reduceNeg,Int.reduceLE,Int.reduceLT,Int.reduceEq,Int.reduceToNat]) <;> repeat ((with_reducible refine Req.intro ?_ ?_); (first | omega | (simp <;> omega)); try simp only [k1, g1, ex,reduceIte,reduceCtorEq,Nat.reduceEqDiff,Nat.reduceLT,Nat.reduceLeDiff,Nat.reduceAdd,Nat.reduceSub,Nat.reduceMul,Int.reduceAdd,Int.reduceSub,Int.reduceMul,Int.reduceNeg,Int.reduceLE,Int.reduceLT,Int.reduceEq,Int.reduceToNat])
          refine CallA.eq rfl tk rfl ?_
          (try simp only [k1, g1, lits, ex,reduceIte,reduceCtorEq,Nat.reduceEqDiff,Nat.reduceLT,Nat.reduceLeDiff,Nat.reduceAdd,Nat.reduceSub,Nat.reduceMul,Int.reduceAdd,Int.reduceSub,Int.reduceMul,Int.reduceNeg,Int.reduceLE,Int.reduceLT,Int.reduceEq,Int.reduceToNat]) <;> repeat ((with_reducible refine Req.intro ?_ ?_); (first | omega | (simp <;> omega)); try simp only [k1, g1, lits, ex,reduceIte,reduceCtorEq,Nat.reduceEqDiff,Nat.reduceLT,Nat.reduceLeDiff,Nat.reduceAdd,Nat.reduceSub,Nat.reduceMul,Int.reduceAdd,Int.reduceSub,Int.reduceMul,Int.reduceNeg,Int.reduceLE,Int.reduceLT,Int.reduceEq,Int.reduceToNat])
          exact h9
        · have hq : stP l rs 3 p = none := by simp [stP, ← hmk]
          rw [hq] at he
          have he : none = res := he
          subst he
          apply hL
          simp only [L21_1, l21_1, pV, ex,reduceIte,reduceCtorEq,Nat.reduceEqDiff,Nat.reduceLT,Nat.reduceLeDiff,Nat.reduceAdd,Nat.reduceSub,Nat.reduceMul,Int.reduceAdd,Int.reduceSub,Int.reduceMul,Int.reduceNeg,Int.reduceLE,Int.reduceLT,Int.reduceEq,Int.reduceToNat]
          (try simp only [k1, g1, ex,reduceIte,reduceCtorEq,Nat.reduceEqDiff,Nat.reduceLT,Nat.reduceLeDiff,Nat.reduceAdd,Nat.reduceSub,Nat.reduceMul,Int.reduceAdd,Int.reduceSub,Int.reduceMul,Int.reduceNeg,Int.reduceLE,Int.reduceLT,Int.reduceEq,Int.reduceToNat]) <;> repeat ((with_reducible refine Req.intro ?_ ?_); (first | omega | (simp <;> omega)); try simp only [k1, g1, ex,reduceIte,reduceCtorEq,Nat.reduceEqDiff,Nat.reduceLT,Nat.reduceLeDiff,Nat.reduceAdd,Nat.reduceSub,Nat.reduceMul,Int.reduceAdd,Int.reduceSub,Int.reduceMul,Int.reduceNeg,Int.reduceLE,Int.reduceLT,Int.reduceEq,Int.reduceToNat])
          refine CallA.eq rfl tk rfl ?_
          (try simp only [k1, g1, lits, ex,reduceIte,reduceCtorEq,Nat.reduceEqDiff,Nat.reduceLT,Nat.reduceLeDiff,Nat.reduceAdd,Nat.reduceSub,Nat.reduceMul,Int.reduceAdd,Int.reduceSub,Int.reduceMul,Int.reduceNeg,Int.reduceLE,Int.reduceLT,Int.reduceEq,Int.reduceToNat]) <;> repeat ((with_reducible refine Req.intro ?_ ?_); (first | omega | (simp <;> omega)); try simp only [k1, g1, lits, ex,reduceIte,reduceCtorEq,Nat.reduceEqDiff,Nat.reduceLT,Nat.reduceLeDiff,Nat.reduceAdd,Nat.reduceSub,Nat.reduceMul,Int.reduceAdd,Int.reduceSub,Int.reduceMul,Int.reduceNeg,Int.reduceLE,Int.reduceLT,Int.reduceEq,Int.reduceToNat])
          rfl
      · rcases ha with rfl | rfl | rfl | rfl
        · have hq : stP l rs 0 p = none := by simp [stP, ← hmk]
          rw [hq] at he
          have he : none = res := he
          subst he
          apply hL
          simp only [L21_1, l21_1, pV, ex,reduceIte,reduceCtorEq,Nat.reduceEqDiff,Nat.reduceLT,Nat.reduceLeDiff,Nat.reduceAdd,Nat.reduceSub,Nat.reduceMul,Int.reduceAdd,Int.reduceSub,Int.reduceMul,Int.reduceNeg,Int.reduceLE,Int.reduceLT,Int.reduceEq,Int.reduceToNat]
          (try simp only [k1, g1, ex,reduceIte,reduceCtorEq,Nat.reduceEqDiff,Nat.reduceLT,Nat.reduceLeDiff,Nat.reduceAdd,Nat.reduceSub,Nat.reduceMul,Int.reduceAdd,Int.reduceSub,Int.reduceMul,Int.reduceNeg,Int.reduceLE,Int.reduceLT,Int.reduceEq,Int.reduceToNat]) <;> repeat ((with_reducible refine Req.intro ?_ ?_); (first | omega | (simp <;> omega)); try simp only [k1, g1, ex,reduceIte,reduceCtorEq,Nat.reduceEqDiff,Nat.reduceLT,Nat.reduceLeDiff,Nat.reduceAdd,Nat.reduceSub,Nat.reduceMul,Int.reduceAdd,Int.reduceSub,Int.reduceMul,Int.reduceNeg,Int.reduceLE,Int.reduceLT,Int.reduceEq,Int.reduceToNat])
          refine CallA.eq rfl tk rfl ?_
          (try simp only [k1, g1, lits, ex,reduceIte,reduceCtorEq,Nat.reduceEqDiff,Nat.reduceLT,Nat.reduceLeDiff,Nat.reduceAdd,Nat.reduceSub,Nat.reduceMul,Int.reduceAdd,Int.reduceSub,Int.reduceMul,Int.reduceNeg,Int.reduceLE,Int.reduceLT,Int.reduceEq,Int.reduceToNat]) <;> repeat ((with_reducible refine Req.intro ?_ ?_); (first | omega | (simp <;> omega)); try simp only [k1, g1, lits, ex,reduceIte,reduceCtorEq,Nat.reduceEqDiff,Nat.reduceLT,Nat.reduceLeDiff,Nat.reduceAdd,Nat.reduceSub,Nat.reduceMul,Int.reduceAdd,Int.reduceSub,Int.reduceMul,Int.reduceNeg,Int.reduceLE,Int.reduceLT,Int.reduceEq,Int.reduceToNat])
          rfl
        · have hq : stP l rs 1 p = none := by simp [stP, ← hmk]
          rw [hq] at he
          have he : none = res := he
          subst he
          apply hL
          simp only [L21_1, l21_1, pV, ex,reduceIte,reduceCtorEq,Nat.reduceEqDiff,Nat.reduceLT,Nat.reduceLeDiff,Nat.reduceAdd,Nat.reduceSub,Nat.reduceMul,Int.reduceAdd,Int.reduceSub,Int.reduceMul,Int.reduceNeg,Int.reduceLE,Int.reduceLT,Int.reduceEq,Int.reduceToNat]
          (try simp only [k1, g1, ex,reduceIte,reduceCtorEq,Nat.reduceEqDiff,Nat.reduceLT,Nat.reduceLeDiff,Nat.reduceAdd,Nat.reduceSub,Nat.reduceMul,Int.reduceAdd,Int.reduceSub,Int.reduceMul,Int.reduceNeg,Int.reduceLE,Int.reduceLT,Int.reduceEq,Int.reduceToNat]) <;> repeat ((with_reducible refine Req.intro ?_ ?_); (first | omega | (simp <;> omega)); try simp only [k1, g1, ex,reduceIte,reduceCtorEq,Nat.reduceEqDiff,Nat.reduceLT,Nat.reduceLeDiff,Nat.reduceAdd,Nat.reduceSub,Nat.reduceMul,Int.reduceAdd,Int.reduceSub,Int.reduceMul,Int.reduceNeg,Int.reduceLE,Int.reduceLT,Int.reduceEq,Int.reduceToNat])
          refine CallA.eq rfl tk rfl ?_
          (try simp only [k1, g1, lits, ex,reduceIte,reduceCtorEq,Nat.reduceEqDiff,Nat.reduceLT,Nat.reduceLeDiff,Nat.reduceAdd,Nat.reduceSub,Nat.reduceMul,Int.reduceAdd,Int.reduceSub,Int.reduceMul,Int.reduceNeg,Int.reduceLE,Int.reduceLT,Int.reduceEq,Int.reduceToNat]) <;> repeat ((with_reducible refine Req.intro ?_ ?_); (first | omega | (simp <;> omega)); try simp only [k1, g1, lits, ex,reduceIte,reduceCtorEq,Nat.reduceEqDiff,Nat.reduceLT,Nat.reduceLeDiff,Nat.reduceAdd,Nat.reduceSub,Nat.reduceMul,Int.reduceAdd,Int.reduceSub,Int.reduceMul,Int.reduceNeg,Int.reduceLE,Int.reduceLT,Int.reduceEq,Int.reduceToNat])
          rfl
        · have hq : stP l rs 2 p = none := by simp [stP, ← hmk]
          rw [hq] at he
          have he : none = res := he
          subst he
          apply hL
          simp only [L21_1, l21_1, pV, ex,reduceIte,reduceCtorEq,Nat.reduceEqDiff,Nat.reduceLT,Nat.reduceLeDiff,Nat.reduceAdd,Nat.reduceSub,Nat.reduceMul,Int.reduceAdd,Int.reduceSub,Int.reduceMul,Int.reduceNeg,Int.reduceLE,Int.reduceLT,Int.reduceEq,Int.reduceToNat]
          (try simp only [k1, g1, ex,reduceIte,reduceCtorEq,Nat.reduceEqDiff,Nat.reduceLT,Nat.reduceLeDiff,Nat.reduceAdd,Nat.reduceSub,Nat.reduceMul,Int.reduceAdd,Int.reduceSub,Int.reduceMul,Int.reduceNeg,Int.reduceLE,Int.reduceLT,Int.reduceEq,Int.reduceToNat]) <;> repeat ((with_reducible refine Req.intro ?_ ?_); (first | omega | (simp <;> omega)); try simp only [k1, g1, ex,reduceIte,reduceCtorEq,Nat.reduceEqDiff,Nat.reduceLT,Nat.reduceLeDiff,Nat.reduceAdd,Nat.reduceSub,Nat.reduceMul,Int.reduceAdd,Int.reduceSub,Int.reduceMul,Int.reduceNeg,Int.reduceLE,Int.reduceLT,Int.reduceEq,Int.reduceToNat])
          refine CallA.eq rfl tk rfl ?_
          (try simp only [k1, g1, lits, ex,reduceIte,reduceCtorEq,Nat.reduceEqDiff,Nat.reduceLT,Nat.reduceLeDiff,Nat.reduceAdd,Nat.reduceSub,Nat.reduceMul,Int.reduceAdd,Int.reduceSub,Int.reduceMul,Int.reduceNeg,Int.reduceLE,Int.reduceLT,Int.reduceEq,Int.reduceToNat]) <;> repeat ((with_reducible refine Req.intro ?_ ?_); (first | omega | (simp <;> omega)); try simp only [k1, g1, lits, ex,reduceIte,reduceCtorEq,Nat.reduceEqDiff,Nat.reduceLT,Nat.reduceLeDiff,Nat.reduceAdd,Nat.reduceSub,Nat.reduceMul,Int.reduceAdd,Int.reduceSub,Int.reduceMul,Int.reduceNeg,Int.reduceLE,Int.reduceLT,Int.reduceEq,Int.reduceToNat])
          rfl
        · have hq : stP l rs 3 p = some (rs ++ [p], 0, p) := by simp [stP, ← hmk]
          rw [hq] at he
          have z := stP_sz hq h1 h2
          have bz := h2
          unfold Sz at bz
          apply hL
          simp only [L21_1, l21_1, pV, ex,reduceIte,reduceCtorEq,Nat.reduceEqDiff,Nat.reduceLT,Nat.reduceLeDiff,Nat.reduceAdd,Nat.reduceSub,Nat.reduceMul,Int.reduceAdd,Int.reduceSub,Int.reduceMul,Int.reduceNeg,Int.reduceLE,Int.reduceLT,Int.reduceEq,Int.reduceToNat]
          (try simp only [k1, g1, ex,reduceIte,reduceCtorEq,Nat.reduceEqDiff,Nat.reduceLT,Nat.reduceLeDiff,Nat.reduceAdd,Nat.reduceSub,Nat.reduceMul,Int.reduceAdd,Int.reduceSub,Int.reduceMul,Int.reduceNeg,Int.reduceLE,Int.reduceLT,Int.reduceEq,Int.reduceToNat]) <;> repeat ((with_reducible refine Req.intro ?_ ?_); (first | omega | (simp <;> omega)); try simp only [k1, g1, ex,reduceIte,reduceCtorEq,Nat.reduceEqDiff,Nat.reduceLT,Nat.reduceLeDiff,Nat.reduceAdd,Nat.reduceSub,Nat.reduceMul,Int.reduceAdd,Int.reduceSub,Int.reduceMul,Int.reduceNeg,Int.reduceLE,Int.reduceLT,Int.reduceEq,Int.reduceToNat])
          refine CallA.eq rfl tk rfl ?_
          (try simp only [k1, g1, lits, ex,reduceIte,reduceCtorEq,Nat.reduceEqDiff,Nat.reduceLT,Nat.reduceLeDiff,Nat.reduceAdd,Nat.reduceSub,Nat.reduceMul,Int.reduceAdd,Int.reduceSub,Int.reduceMul,Int.reduceNeg,Int.reduceLE,Int.reduceLT,Int.reduceEq,Int.reduceToNat]) <;> repeat ((with_reducible refine Req.intro ?_ ?_); (first | omega | (simp <;> omega)); try simp only [k1, g1, lits, ex,reduceIte,reduceCtorEq,Nat.reduceEqDiff,Nat.reduceLT,Nat.reduceLeDiff,Nat.reduceAdd,Nat.reduceSub,Nat.reduceMul,Int.reduceAdd,Int.reduceSub,Int.reduceMul,Int.reduceNeg,Int.reduceLE,Int.reduceLT,Int.reduceEq,Int.reduceToNat])
          have pk := hk (by decide)
          have pO : rgO p = .agg [.int .i64 p.k, .sl false 1 (p.l.map .str), .sl false 1 (p.o.map .str), .sl false 1 (p.b.map .str), .sl false 1 (p.t.map .str)] := by unfold rgO; rw [decide_eq_false (by omega)]
          have h9 := fun n h hR => ih (i + 1) n 0 p (rs ++ [p]) f h (by omega) (by decide) (fun q => (q rfl).elim) (fun q => (q rfl).elim) z.1 z.2 hR he
          obtain ⟨hb, hn, hR⟩ := hR
          rcases hR with ⟨e2, e3⟩ | ⟨c, c1, c2, c3, e3, e4⟩
          · subst e2
            have s1 : ∀ x, get (set h n x) 0 = some (.rows 1 [.agg [.hs 0 0 0 0]]) := fun x => by rw [get_set_other (by omega), e3]
            (try simp only [lits, e3, appB_nil, s1, ex,reduceIte,reduceCtorEq,Nat.reduceEqDiff,Nat.reduceLT,Nat.reduceLeDiff,Nat.reduceAdd,Nat.reduceSub,Nat.reduceMul,Int.reduceAdd,Int.reduceSub,Int.reduceMul,Int.reduceNeg,Int.reduceLE,Int.reduceLT,Int.reduceEq,Int.reduceToNat]) <;> repeat ((with_reducible refine Req.intro ?_ ?_); (first | omega | (simp <;> omega)); try simp only [lits, e3, appB_nil, s1, ex,reduceIte,reduceCtorEq,Nat.reduceEqDiff,Nat.reduceLT,Nat.reduceLeDiff,Nat.reduceAdd,Nat.reduceSub,Nat.reduceMul,Int.reduceAdd,Int.reduceSub,Int.reduceMul,Int.reduceNeg,Int.reduceLE,Int.reduceLT,Int.reduceEq,Int.reduceToNat])
            refine h9 (n + 1) _ ⟨by omega, fun k hk => ?_, .inr ⟨n, by omega, by omega, by simp, get_set_same, ?_⟩⟩
            · rw [get_set_other (by omega), get_set_other (by omega)]
              exact hn k (by omega)
            · rw [get_set_other (by omega), get_set_same, List.nil_append, List.map_cons, List.map_nil, pO]
          · obtain ⟨u, hu⟩ : ∃ u, rs.length = u := ⟨_, rfl⟩
            have e5 : (rs.map rgO).length = u := by simp [hu]
            have e6 : (rs.map rgO).take u = rs.map rgO := List.take_of_length_le (by omega)
            rw [hu] at e3 c3
            have zb := h1.1
            have s1 : ∀ x, get (set (del h c) n x) 0 = some (.rows 1 [.agg [.hs c 5 0 u]]) := fun x => by rw [get_set_other (by omega), get_del_other1 _ (by omega), e3]
            (try simp only [lits, e3, e4, appB_put, apB_rows, s1, e5, e6, ex,reduceIte,reduceCtorEq,Nat.reduceEqDiff,Nat.reduceLT,Nat.reduceLeDiff,Nat.reduceAdd,Nat.reduceSub,Nat.reduceMul,Int.reduceAdd,Int.reduceSub,Int.reduceMul,Int.reduceNeg,Int.reduceLE,Int.reduceLT,Int.reduceEq,Int.reduceToNat]) <;> repeat ((with_reducible refine Req.intro ?_ ?_); (first | omega | (simp <;> omega)); try simp only [lits, e3, e4, appB_put, apB_rows, s1, e5, e6, ex,reduceIte,reduceCtorEq,Nat.reduceEqDiff,Nat.reduceLT,Nat.reduceLeDiff,Nat.reduceAdd,Nat.reduceSub,Nat.reduceMul,Int.reduceAdd,Int.reduceSub,Int.reduceMul,Int.reduceNeg,Int.reduceLE,Int.reduceLT,Int.reduceEq,Int.reduceToNat])
            refine h9 (n + 1) _ ⟨by omega, fun k hk => ?_, .inr ⟨n, by omega, by omega, by simp, ?_, ?_⟩⟩
            · rw [get_set_other (by omega), get_set_other (by omega), get_del_other1 _ (by omega)]
              exact hn k (by omega)
            · rw [get_set_same, List.length_append, List.length_singleton, hu]
            · rw [get_set_other (by omega), get_set_same, List.map_append, List.map_cons, List.map_nil, pO]
  refine key ls.length 0 2 0 p0 [] true _ (Nat.zero_add _) (.inl rfl) (fun _ => rfl) (fun h => (h rfl).elim) ⟨by simp, by simp⟩ (by simp [Sz, p0]) ⟨by omega, fun k hk => ?_, .inl ⟨rfl, rfl⟩⟩ hres
  rw [get_cons, if_neg (by omega)]
  rfl
end Go.Proofs.Ytnodepfoahmcmaa.E.Hs

/- Fixed examples of chapter 12: run outright. Conditions: none. -/
namespace Go.Proofs.Ytnodepfoahmcmaa.E.Hs
set_option linter.unusedVariables false
theorem lives_spec : Run tab 9 0 [] [] 0 (fun r _ _ => r = .bool true) := by
  have h : (evF tab 1000 9 0 [] [] 0).map (fun q => match q.1 with | .bool b => b | _ => false) = some true := by kernel_rfl
  obtain ⟨q, h1, h2⟩ := Option.map_eq_some_iff.1 h
  refine (run_ev 1000 h1).weaken fun r h n hh => ?_
  have e := hh.1
  rw [e]
  generalize q.1 = y at h2
  cases y <;> first | (cases h2; done) | (simp only at h2; rw [h2])
end Go.Proofs.Ytnodepfoahmcmaa.E.Hs
