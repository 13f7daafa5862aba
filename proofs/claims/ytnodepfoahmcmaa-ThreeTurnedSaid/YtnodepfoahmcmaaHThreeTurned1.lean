/- What the functions compute, and the law ThreeTurned in plain lists: part 1. Conditions: none. -/
import Derived.KernelRfl
import Derived.Test.YtnodepfoahmcmaaFThreeTurned
/- Runs that two lists have in common: what the anchor is. Plain lists. Conditions: none. -/
namespace Go.Proofs.Ytnodepfoahmcmaa.E.Hs
set_option linter.unusedVariables false

abbrev S := List UInt8
/-- How long two lists are the same at their beginning. -/
def lcp : List S → List S → Nat
  | x :: a, y :: b => if x = y then lcp a b + 1 else 0
  | _, _ => 0
theorem lcp_le : ∀ a b : List S, lcp a b ≤ a.length ∧ lcp a b ≤ b.length
  | [], _ => by simp [lcp]
  | _ :: _, [] => by simp [lcp]
  | x :: a, y :: b => by
    have := lcp_le a b
    simp only [lcp, List.length_cons]
    split <;> omega
theorem lcp_lt : ∀ (a b : List S) (n : Nat), n < lcp a b → ∃ s, a[n]? = some s ∧ b[n]? = some s
  | [], _, n, h => by simp [lcp] at h
  | _ :: _, [], n, h => by simp [lcp] at h
  | x :: a, y :: b, n, h => by
    simp only [lcp] at h
    split at h
    · rename_i e
      subst e
      cases n with
      | zero => exact ⟨x, rfl, rfl⟩
      | succ n => simpa using lcp_lt a b n (by omega)
    · omega
theorem lcp_end : ∀ (a b : List S) (s t : S), a[lcp a b]? = some s → b[lcp a b]? = some t → s ≠ t
  | [], _, s, t, h, _ => by simp at h
  | _ :: _, [], s, t, _, h => by simp at h
  | x :: a, y :: b, s, t, h1, h2 => by
    simp only [lcp] at h1 h2
    split at h1
    · rename_i e
      rw [if_pos e] at h2
      exact lcp_end a b s t (by simpa using h1) (by simpa using h2)
    · rename_i e
      rw [if_neg e] at h2
      simp at h1 h2
      subst h1; subst h2
      exact e
structure Rn where
  A : Nat
  B : Nat
  N : Nat deriving DecidableEq
end Go.Proofs.Ytnodepfoahmcmaa.E.Hs

/- Small functions of chapter 12: what they compute. Conditions: none. -/
namespace Go.Proofs.Ytnodepfoahmcmaa.E.Hs
set_option linter.unusedVariables false
set_option linter.unusedSimpArgs false
set_option maxHeartbeats 20000000

/-- What several cases come to is proved once. -/
structure Hold (P : Prop) : Prop where
  out : P
theorem shareL {P Q : Prop} (h : Hold P → Q) (k : P) : Q := h ⟨k⟩
def small (a : List S) : Bool := decide (a.length ≤ 60) && a.all fun s => decide (s.length ≤ 200)

theorem small_spec (o : Bool) (a : List S) (hl : a.length ≤ 17592186044416) : Run tab 8 0 [.sl o 1 (a.map .str)] [] 0 (fun r _ _ => r = .bool (small a)) := by
  refine enter (F := f8) rfl rfl ?_
  simp only [f8, ex,reduceIte,reduceCtorEq,Nat.reduceEqDiff,Nat.reduceLT,Nat.reduceLeDiff,Nat.reduceAdd,Nat.reduceSub,Nat.reduceMul,Int.reduceAdd,Int.reduceSub,Int.reduceMul,Int.reduceNeg,Int.reduceLE,Int.reduceLT,Int.reduceEq,Int.reduceToNat]
  refine ifB.intro (fun h => ?_) (fun h => ?_)
  · (try simp only [ex,reduceIte,reduceCtorEq,Nat.reduceEqDiff,Nat.reduceLT,Nat.reduceLeDiff,Nat.reduceAdd,Nat.reduceSub,Nat.reduceMul,Int.reduceAdd,Int.reduceSub,Int.reduceMul,Int.reduceNeg,Int.reduceLE,Int.reduceLT,Int.reduceEq,Int.reduceToNat]) <;> repeat ((with_reducible refine Req.intro ?_ ?_); (first | omega | (simp <;> omega)); try simp only [ex,reduceIte,reduceCtorEq,Nat.reduceEqDiff,Nat.reduceLT,Nat.reduceLeDiff,Nat.reduceAdd,Nat.reduceSub,Nat.reduceMul,Int.reduceAdd,Int.reduceSub,Int.reduceMul,Int.reduceNeg,Int.reduceLE,Int.reduceLT,Int.reduceEq,Int.reduceToNat])
    simp at h
    simp [small]; omega
  · simp at h
    (try simp only [ex,reduceIte,reduceCtorEq,Nat.reduceEqDiff,Nat.reduceLT,Nat.reduceLeDiff,Nat.reduceAdd,Nat.reduceSub,Nat.reduceMul,Int.reduceAdd,Int.reduceSub,Int.reduceMul,Int.reduceNeg,Int.reduceLE,Int.reduceLT,Int.reduceEq,Int.reduceToNat]) <;> repeat ((with_reducible refine Req.intro ?_ ?_); (first | omega | (simp <;> omega)); try simp only [ex,reduceIte,reduceCtorEq,Nat.reduceEqDiff,Nat.reduceLT,Nat.reduceLeDiff,Nat.reduceAdd,Nat.reduceSub,Nat.reduceMul,Int.reduceAdd,Int.reduceSub,Int.reduceMul,Int.reduceNeg,Int.reduceLE,Int.reduceLT,Int.reduceEq,Int.reduceToNat])
    refine loopI fun L hL => ?_
    simp only [ex,reduceIte,reduceCtorEq,Nat.reduceEqDiff,Nat.reduceLT,Nat.reduceLeDiff,Nat.reduceAdd,Nat.reduceSub,Nat.reduceMul,Int.reduceAdd,Int.reduceSub,Int.reduceMul,Int.reduceNeg,Int.reduceLE,Int.reduceLT,Int.reduceEq,Int.reduceToNat]
    have key : ∀ m i : Nat, i + m = a.length → (a.take i).all (fun s => decide (s.length ≤ 200)) = true → L (L8_1 (.sl o 1 (a.map .str)) (.int .i64 i) [] 0) := by
      intro m
      induction m with
      | zero =>
        intro i hi ha
        apply hL
        simp only [L8_1, l8_1, ex,reduceIte,reduceCtorEq,Nat.reduceEqDiff,Nat.reduceLT,Nat.reduceLeDiff,Nat.reduceAdd,Nat.reduceSub,Nat.reduceMul,Int.reduceAdd,Int.reduceSub,Int.reduceMul,Int.reduceNeg,Int.reduceLE,Int.reduceLT,Int.reduceEq,Int.reduceToNat]
        refine ifB.no (by simp; omega) ?_
        (try simp only [ex,reduceIte,reduceCtorEq,Nat.reduceEqDiff,Nat.reduceLT,Nat.reduceLeDiff,Nat.reduceAdd,Nat.reduceSub,Nat.reduceMul,Int.reduceAdd,Int.reduceSub,Int.reduceMul,Int.reduceNeg,Int.reduceLE,Int.reduceLT,Int.reduceEq,Int.reduceToNat]) <;> repeat ((with_reducible refine Req.intro ?_ ?_); (first | omega | (simp <;> omega)); try simp only [ex,reduceIte,reduceCtorEq,Nat.reduceEqDiff,Nat.reduceLT,Nat.reduceLeDiff,Nat.reduceAdd,Nat.reduceSub,Nat.reduceMul,Int.reduceAdd,Int.reduceSub,Int.reduceMul,Int.reduceNeg,Int.reduceLE,Int.reduceLT,Int.reduceEq,Int.reduceToNat])
        rw [List.take_of_length_le (by omega)] at ha
        simp [small, ha]; omega
      | succ m ih =>
        intro i hi ha
        apply hL
        simp only [L8_1, l8_1, ex,reduceIte,reduceCtorEq,Nat.reduceEqDiff,Nat.reduceLT,Nat.reduceLeDiff,Nat.reduceAdd,Nat.reduceSub,Nat.reduceMul,Int.reduceAdd,Int.reduceSub,Int.reduceMul,Int.reduceNeg,Int.reduceLE,Int.reduceLT,Int.reduceEq,Int.reduceToNat]
        refine ifB.yes (by simp; omega) ?_
        (try simp only [ex,reduceIte,reduceCtorEq,Nat.reduceEqDiff,Nat.reduceLT,Nat.reduceLeDiff,Nat.reduceAdd,Nat.reduceSub,Nat.reduceMul,Int.reduceAdd,Int.reduceSub,Int.reduceMul,Int.reduceNeg,Int.reduceLE,Int.reduceLT,Int.reduceEq,Int.reduceToNat]) <;> repeat ((with_reducible refine Req.intro ?_ ?_); (first | omega | (simp <;> omega)); try simp only [ex,reduceIte,reduceCtorEq,Nat.reduceEqDiff,Nat.reduceLT,Nat.reduceLeDiff,Nat.reduceAdd,Nat.reduceSub,Nat.reduceMul,Int.reduceAdd,Int.reduceSub,Int.reduceMul,Int.reduceNeg,Int.reduceLE,Int.reduceLT,Int.reduceEq,Int.reduceToNat])
        refine WK.idx (by omega) fun x hx => ?_
        (try simp only [ex,reduceIte,reduceCtorEq,Nat.reduceEqDiff,Nat.reduceLT,Nat.reduceLeDiff,Nat.reduceAdd,Nat.reduceSub,Nat.reduceMul,Int.reduceAdd,Int.reduceSub,Int.reduceMul,Int.reduceNeg,Int.reduceLE,Int.reduceLT,Int.reduceEq,Int.reduceToNat]) <;> repeat ((with_reducible refine Req.intro ?_ ?_); (first | omega | (simp <;> omega)); try simp only [ex,reduceIte,reduceCtorEq,Nat.reduceEqDiff,Nat.reduceLT,Nat.reduceLeDiff,Nat.reduceAdd,Nat.reduceSub,Nat.reduceMul,Int.reduceAdd,Int.reduceSub,Int.reduceMul,Int.reduceNeg,Int.reduceLE,Int.reduceLT,Int.reduceEq,Int.reduceToNat])
        refine ifB.intro (fun h => ?_) (fun h => ?_)
        · (try simp only [ex,reduceIte,reduceCtorEq,Nat.reduceEqDiff,Nat.reduceLT,Nat.reduceLeDiff,Nat.reduceAdd,Nat.reduceSub,Nat.reduceMul,Int.reduceAdd,Int.reduceSub,Int.reduceMul,Int.reduceNeg,Int.reduceLE,Int.reduceLT,Int.reduceEq,Int.reduceToNat]) <;> repeat ((with_reducible refine Req.intro ?_ ?_); (first | omega | (simp <;> omega)); try simp only [ex,reduceIte,reduceCtorEq,Nat.reduceEqDiff,Nat.reduceLT,Nat.reduceLeDiff,Nat.reduceAdd,Nat.reduceSub,Nat.reduceMul,Int.reduceAdd,Int.reduceSub,Int.reduceMul,Int.reduceNeg,Int.reduceLE,Int.reduceLT,Int.reduceEq,Int.reduceToNat])
          have hm : x ∈ a := List.mem_of_getElem? hx
          have : a.all (fun s => decide (s.length ≤ 200)) = false := by
            rw [List.all_eq_false]
            exact ⟨x, hm, by simp at h ⊢; omega⟩
          simp [small, this]
        · (try simp only [ex,reduceIte,reduceCtorEq,Nat.reduceEqDiff,Nat.reduceLT,Nat.reduceLeDiff,Nat.reduceAdd,Nat.reduceSub,Nat.reduceMul,Int.reduceAdd,Int.reduceSub,Int.reduceMul,Int.reduceNeg,Int.reduceLE,Int.reduceLT,Int.reduceEq,Int.reduceToNat]) <;> repeat ((with_reducible refine Req.intro ?_ ?_); (first | omega | (simp <;> omega)); try simp only [ex,reduceIte,reduceCtorEq,Nat.reduceEqDiff,Nat.reduceLT,Nat.reduceLeDiff,Nat.reduceAdd,Nat.reduceSub,Nat.reduceMul,Int.reduceAdd,Int.reduceSub,Int.reduceMul,Int.reduceNeg,Int.reduceLE,Int.reduceLT,Int.reduceEq,Int.reduceToNat])
          have := ih (i + 1) (by omega) (by
            rw [List.take_add_one, hx]
            simp at h
            simp [ha]; omega)
          simpa [L8_1] using this
    exact key a.length 0 (by omega) (by simp)
end Go.Proofs.Ytnodepfoahmcmaa.E.Hs

/- diff.table: what it computes. Conditions: none. -/
namespace Go.Proofs.Ytnodepfoahmcmaa.E.Hs
set_option linter.unusedVariables false
set_option linter.unusedSimpArgs false
set_option maxHeartbeats 20000000

variable {α : Type} [DecidableEq α]
/-- The greatest number of lines that stay. -/
def lcs : List α → List α → Nat
  | [], _ => 0
  | _ :: _, [] => 0
  | x :: a, y :: b => if x = y then lcs a b + 1 else max (lcs a (y :: b)) (lcs (x :: a) b)
termination_by a b => a.length + b.length
theorem lcs_nil (b : List α) : lcs [] b = 0 := by unfold lcs; rfl
theorem lcs_nil2 (a : List α) : lcs a [] = 0 := by cases a <;> (unfold lcs; rfl)
theorem lcs_same (x : α) (a b : List α) : lcs (x :: a) (x :: b) = lcs a b + 1 := by rw [lcs, if_pos rfl]
theorem lcs_ne {x y : α} (h : x ≠ y) (a b : List α) : lcs (x :: a) (y :: b) = max (lcs a (y :: b)) (lcs (x :: a) b) := by rw [lcs, if_neg h]
theorem lcs_len : ∀ (n : Nat) (a b : List α), a.length + b.length ≤ n → lcs a b ≤ a.length
  | 0, a, b, h => by
    have : a = [] := List.eq_nil_of_length_eq_zero (by omega)
    subst this; simp [lcs_nil]
  | n + 1, [], b, h => by simp [lcs_nil]
  | n + 1, x :: a, [], h => by simp [lcs_nil2]
  | n + 1, x :: a, y :: b, h => by
    simp only [List.length_cons] at h
    have h1 := lcs_len n a b (by omega)
    have h2 := lcs_len n a (y :: b) (by simp only [List.length_cons]; omega)
    have h3 := lcs_len n (x :: a) b (by simp only [List.length_cons]; omega)
    simp only [List.length_cons] at h3 ⊢
    rw [lcs]
    split <;> omega
/-- The table's entry. -/
def ent (a b : List α) (i j : Nat) : Nat := lcs (a.drop i) (b.drop j)
theorem ent_le (a b : List α) (i j : Nat) : ent a b i j ≤ a.length := by
  have := lcs_len _ (a.drop i) (b.drop j) (Nat.le_refl _)
  rw [List.length_drop] at this
  unfold ent; omega
theorem ent_eq {a b : List α} {i j : Nat} {x : α} (h1 : a[i]? = some x) (h2 : b[j]? = some x) : ent a b i j = ent a b (i + 1) (j + 1) + 1 := by
  obtain ⟨l1, e1⟩ := List.getElem?_eq_some_iff.1 h1
  obtain ⟨l2, e2⟩ := List.getElem?_eq_some_iff.1 h2
  unfold ent
  rw [List.drop_eq_getElem_cons l1, List.drop_eq_getElem_cons l2, e1, e2, lcs_same]
theorem ent_ne {a b : List α} {i j : Nat} {x y : α} (h1 : a[i]? = some x) (h2 : b[j]? = some y) (h : x ≠ y) : ent a b i j = max (ent a b (i + 1) j) (ent a b i (j + 1)) := by
  obtain ⟨l1, e1⟩ := List.getElem?_eq_some_iff.1 h1
  obtain ⟨l2, e2⟩ := List.getElem?_eq_some_iff.1 h2
  unfold ent
  rw [List.drop_eq_getElem_cons l1, List.drop_eq_getElem_cons l2, e1, e2, lcs_ne h]
theorem ent_end (a b : List α) (i j : Nat) (h : a.length ≤ i ∨ b.length ≤ j) : ent a b i j = 0 := by
  unfold ent
  rcases h with h | h
  · rw [List.drop_of_length_le h, lcs_nil]
  · rw [List.drop_of_length_le h, lcs_nil2]
/-- What is right already: the rows from i on, and of row i - 1 the entries from j on. -/
def Right (a b : List α) (i j : Nat) (f : Nat → Nat → Nat) : Prop := ∀ i' j', i' ≤ a.length → j' ≤ b.length → (i ≤ i' ∨ (i' + 1 = i ∧ j ≤ j') ∨ b.length ≤ j') → f i' j' = ent a b i' j'
theorem Right.step {a b : List α} {i j : Nat} {f : Nat → Nat → Nat} (h : Right a b (i + 1) (j + 1) f) : Right a b (i + 1) j (updF f i j (ent a b i j)) := by
  intro i' j' h1 h2 h3
  unfold updF
  split
  · rename_i e; rw [e.1, e.2]
  · refine h i' j' h1 h2 ?_
    omega
theorem Right.row {a b : List α} {i : Nat} {f : Nat → Nat → Nat} (h : Right a b (i + 1) 0 f) : Right a b i b.length f := by
  intro i' j' h1 h2 h3
  refine h i' j' h1 h2 ?_
  omega
/-- The handles of the rows. -/
def hds (n w m : Nat) : List V := (List.range m).map fun i => .hs (n + 1 + i) 1 0 w
theorem hds_get {n w m i : Nat} (h : i < m) : (hds n w m)[i]? = some (.hs (n + 1 + i) 1 0 w) := by
  unfold hds; rw [List.getElem?_map, List.getElem?_range h]; rfl
def hdsP (n w m q : Nat) : List V := (List.range m).map fun i => if i < q then .hs (n + 1 + i) 1 0 w else .hs 0 0 0 0
theorem hdsP_zero (n w m : Nat) : List.replicate m (V.hs 0 0 0 0) = hdsP n w m 0 := by
  apply List.ext_getElem
  · simp [hdsP]
  · intro i h1 h2; simp [hdsP]
theorem hdsP_set (n w m q : Nat) : (hdsP n w m q).set q (.hs (n + 1 + q) 1 0 w) = hdsP n w m (q + 1) := by
  apply List.ext_getElem
  · simp [hdsP]
  · intro i h1 h2
    simp only [hdsP, List.getElem_set, List.getElem_map, List.getElem_range]
    by_cases e : q = i
    · subst e; simp
    · rw [if_neg e]
      by_cases c : i < q
      · rw [if_pos c, if_pos (by omega)]
      · rw [if_neg c, if_neg (by omega)]
theorem hdsP_all (n w m : Nat) : hdsP n w m m = hds n w m := by
  unfold hdsP hds
  apply List.map_congr_left
  intro i hi
  rw [if_pos (List.mem_range.1 hi)]
theorem u16_wrap {n : Int} (h0 : 0 ≤ n) (h : n < 65536) : IntKind.u16.wrap n = n := by
  unfold IntKind.wrap
  simp [IntKind.bits, IntKind.signed]
  omega
theorem ifmax (x y : Nat) : (if (y : Int) > (x : Int) then (y : Int) else (x : Int)) = ((max x y : Nat) : Int) := by
  split <;> omega
end Go.Proofs.Ytnodepfoahmcmaa.E.Hs

/- diff.table: walked. Conditions: none. -/
namespace Go.Proofs.Ytnodepfoahmcmaa.E.Hs
set_option linter.unusedVariables false
set_option linter.unusedSimpArgs false
set_option maxHeartbeats 20000000

theorem table_spec (o o' : Bool) (a b : List S) (ha : a.length ≤ 4096) (hb : b.length ≤ 4096) (h : Heap) (n : Nat) (hl : Low h n) :
    Run tab 61 0 [.sl o 1 (a.map .str), .sl o' 1 (b.map .str)] h n (fun r h' n' => r = .hs n 1 0 (a.length + 1) ∧ n' = n + (a.length + 2) ∧ ∃ f, (∀ i j, i ≤ a.length → j ≤ b.length → f i j = ent a b i j) ∧ h' = TB .u16 h n (a.length + 1) (b.length + 1) (hds n (b.length + 1) (a.length + 1)) f) := by
  refine enter (F := f61) rfl rfl ?_
  simp only [f61, ex,reduceIte,reduceCtorEq,Nat.reduceEqDiff,Nat.reduceLT,Nat.reduceLeDiff,Nat.reduceAdd,Nat.reduceSub,Nat.reduceMul,Int.reduceAdd,Int.reduceSub,Int.reduceMul,Int.reduceNeg,Int.reduceLE,Int.reduceLT,Int.reduceEq,Int.reduceToNat]
  have t1 : ((a.length : Int) + 1).toNat = a.length + 1 := by omega
  have t2 : ((b.length : Int) + 1).toNat = b.length + 1 := by omega
  have h0 : set h n (.rows 1 (List.replicate (a.length + 1) (V.hs 0 0 0 0))) = TB .u16 h n 0 (b.length + 1) (hdsP n (b.length + 1) (a.length + 1) 0) (fun _ _ => 0) := by
    rw [hdsP_zero n (b.length + 1)]; exact TB_first hl
  (try simp only [t1, h0, ex,reduceIte,reduceCtorEq,Nat.reduceEqDiff,Nat.reduceLT,Nat.reduceLeDiff,Nat.reduceAdd,Nat.reduceSub,Nat.reduceMul,Int.reduceAdd,Int.reduceSub,Int.reduceMul,Int.reduceNeg,Int.reduceLE,Int.reduceLT,Int.reduceEq,Int.reduceToNat]) <;> repeat ((with_reducible refine Req.intro ?_ ?_); (first | omega | (simp <;> omega)); try simp only [t1, h0, ex,reduceIte,reduceCtorEq,Nat.reduceEqDiff,Nat.reduceLT,Nat.reduceLeDiff,Nat.reduceAdd,Nat.reduceSub,Nat.reduceMul,Int.reduceAdd,Int.reduceSub,Int.reduceMul,Int.reduceNeg,Int.reduceLE,Int.reduceLT,Int.reduceEq,Int.reduceToNat])
  refine loopI fun L1 hL1 => ?_
  (try simp only [ex,reduceIte,reduceCtorEq,Nat.reduceEqDiff,Nat.reduceLT,Nat.reduceLeDiff,Nat.reduceAdd,Nat.reduceSub,Nat.reduceMul,Int.reduceAdd,Int.reduceSub,Int.reduceMul,Int.reduceNeg,Int.reduceLE,Int.reduceLT,Int.reduceEq,Int.reduceToNat]) <;> repeat ((with_reducible refine Req.intro ?_ ?_); (first | omega | (simp <;> omega)); try simp only [ex,reduceIte,reduceCtorEq,Nat.reduceEqDiff,Nat.reduceLT,Nat.reduceLeDiff,Nat.reduceAdd,Nat.reduceSub,Nat.reduceMul,Int.reduceAdd,Int.reduceSub,Int.reduceMul,Int.reduceNeg,Int.reduceLE,Int.reduceLT,Int.reduceEq,Int.reduceToNat])
  have key1 : ∀ m q : Nat, q + m = a.length + 1 → L1 (L61_1 (.sl o 1 (a.map .str)) (.sl o' 1 (b.map .str)) (.hs n 1 0 (a.length + 1)) (.int .i64 ((a.length : Int) + 1)) (.int .i64 q) (TB .u16 h n q (b.length + 1) (hdsP n (b.length + 1) (a.length + 1) q) (fun _ _ => 0)) (n + 1 + q)) := by
    intro m
    induction m with
    | succ m ih =>
      intro q hq
      apply hL1
      simp only [L61_1, l61_1, ex,reduceIte,reduceCtorEq,Nat.reduceEqDiff,Nat.reduceLT,Nat.reduceLeDiff,Nat.reduceAdd,Nat.reduceSub,Nat.reduceMul,Int.reduceAdd,Int.reduceSub,Int.reduceMul,Int.reduceNeg,Int.reduceLE,Int.reduceLT,Int.reduceEq,Int.reduceToNat]
      have h1 : decide ((q : Int) < (a.length : Int) + 1) = true := by simp; omega
      have g0 := fun hs => TB_outer (k := .u16) (m := q) (w := b.length + 1) (hs := hs) (f := fun _ _ => 0) hl
      have g1 := TB_new (k := .u16) (m := q) (w := b.length + 1) (hs := hdsP n (b.length + 1) (a.length + 1) q) (f := fun _ _ => 0) hl (fun _ => rfl)
      have g2 := TB_outer (k := .u16) (m := q + 1) (w := b.length + 1) (hs := hdsP n (b.length + 1) (a.length + 1) q) (f := fun _ _ => 0) hl
      have g3 := fun hs => TB_set_outer (k := .u16) (m := q + 1) (w := b.length + 1) (hs := hdsP n (b.length + 1) (a.length + 1) q) (f := fun _ _ => 0) (hs' := hs) hl
      have g4 := hdsP_set n (b.length + 1) (a.length + 1) q
      have g5 : (hdsP n (b.length + 1) (a.length + 1) q)[q]? = some (.hs 0 0 0 0) := by
        unfold hdsP; rw [List.getElem?_map, List.getElem?_range (by omega)]; simp
      (try simp only [h1, t2, g1, g2, g5, g3, g4, ex,reduceIte,reduceCtorEq,Nat.reduceEqDiff,Nat.reduceLT,Nat.reduceLeDiff,Nat.reduceAdd,Nat.reduceSub,Nat.reduceMul,Int.reduceAdd,Int.reduceSub,Int.reduceMul,Int.reduceNeg,Int.reduceLE,Int.reduceLT,Int.reduceEq,Int.reduceToNat]) <;> repeat ((with_reducible refine Req.intro ?_ ?_); (first | omega | (simp <;> omega)); try simp only [h1, t2, g1, g2, g5, g3, g4, ex,reduceIte,reduceCtorEq,Nat.reduceEqDiff,Nat.reduceLT,Nat.reduceLeDiff,Nat.reduceAdd,Nat.reduceSub,Nat.reduceMul,Int.reduceAdd,Int.reduceSub,Int.reduceMul,Int.reduceNeg,Int.reduceLE,Int.reduceLT,Int.reduceEq,Int.reduceToNat])
      have h9 := ih (q + 1) (by omega)
      rw [show n + 1 + (q + 1) = n + 1 + q + 1 by omega] at h9
      exact h9
    | zero =>
      intro q hq
      apply hL1
      simp only [L61_1, l61_1, ex,reduceIte,reduceCtorEq,Nat.reduceEqDiff,Nat.reduceLT,Nat.reduceLeDiff,Nat.reduceAdd,Nat.reduceSub,Nat.reduceMul,Int.reduceAdd,Int.reduceSub,Int.reduceMul,Int.reduceNeg,Int.reduceLE,Int.reduceLT,Int.reduceEq,Int.reduceToNat]
      have h1 : decide ((q : Int) < (a.length : Int) + 1) = false := by simp; omega
      (try simp only [h1, ex,reduceIte,reduceCtorEq,Nat.reduceEqDiff,Nat.reduceLT,Nat.reduceLeDiff,Nat.reduceAdd,Nat.reduceSub,Nat.reduceMul,Int.reduceAdd,Int.reduceSub,Int.reduceMul,Int.reduceNeg,Int.reduceLE,Int.reduceLT,Int.reduceEq,Int.reduceToNat]) <;> repeat ((with_reducible refine Req.intro ?_ ?_); (first | omega | (simp <;> omega)); try simp only [h1, ex,reduceIte,reduceCtorEq,Nat.reduceEqDiff,Nat.reduceLT,Nat.reduceLeDiff,Nat.reduceAdd,Nat.reduceSub,Nat.reduceMul,Int.reduceAdd,Int.reduceSub,Int.reduceMul,Int.reduceNeg,Int.reduceLE,Int.reduceLT,Int.reduceEq,Int.reduceToNat])
      rw [show q = a.length + 1 by omega, hdsP_all]
      refine loopI fun L3 hL3 => ?_
      (try simp only [ex,reduceIte,reduceCtorEq,Nat.reduceEqDiff,Nat.reduceLT,Nat.reduceLeDiff,Nat.reduceAdd,Nat.reduceSub,Nat.reduceMul,Int.reduceAdd,Int.reduceSub,Int.reduceMul,Int.reduceNeg,Int.reduceLE,Int.reduceLT,Int.reduceEq,Int.reduceToNat]) <;> repeat ((with_reducible refine Req.intro ?_ ?_); (first | omega | (simp <;> omega)); try simp only [ex,reduceIte,reduceCtorEq,Nat.reduceEqDiff,Nat.reduceLT,Nat.reduceLeDiff,Nat.reduceAdd,Nat.reduceSub,Nat.reduceMul,Int.reduceAdd,Int.reduceSub,Int.reduceMul,Int.reduceNeg,Int.reduceLE,Int.reduceLT,Int.reduceEq,Int.reduceToNat])
      have key3 : ∀ (m : Nat) (f : Nat → Nat → Nat), m ≤ a.length → Right a b m b.length f → L3 (L61_3 (.sl o 1 (a.map .str)) (.sl o' 1 (b.map .str)) (.hs n 1 0 (a.length + 1)) (.int .i64 ((m : Int) - 1)) (TB .u16 h n (a.length + 1) (b.length + 1) (hds n (b.length + 1) (a.length + 1)) f) (n + 1 + (a.length + 1))) := by
        intro m
        induction m with
        | zero =>
          intro f hm hf
          apply hL3
          simp only [L61_3, l61_3, ex,reduceIte,reduceCtorEq,Nat.reduceEqDiff,Nat.reduceLT,Nat.reduceLeDiff,Nat.reduceAdd,Nat.reduceSub,Nat.reduceMul,Int.reduceAdd,Int.reduceSub,Int.reduceMul,Int.reduceNeg,Int.reduceLE,Int.reduceLT,Int.reduceEq,Int.reduceToNat]
          have h1 : decide (((0 : Nat) : Int) - 1 ≥ 0) = false := by decide
          (try simp only [h1, ex,reduceIte,reduceCtorEq,Nat.reduceEqDiff,Nat.reduceLT,Nat.reduceLeDiff,Nat.reduceAdd,Nat.reduceSub,Nat.reduceMul,Int.reduceAdd,Int.reduceSub,Int.reduceMul,Int.reduceNeg,Int.reduceLE,Int.reduceLT,Int.reduceEq,Int.reduceToNat]) <;> repeat ((with_reducible refine Req.intro ?_ ?_); (first | omega | (simp <;> omega)); try simp only [h1, ex,reduceIte,reduceCtorEq,Nat.reduceEqDiff,Nat.reduceLT,Nat.reduceLeDiff,Nat.reduceAdd,Nat.reduceSub,Nat.reduceMul,Int.reduceAdd,Int.reduceSub,Int.reduceMul,Int.reduceNeg,Int.reduceLE,Int.reduceLT,Int.reduceEq,Int.reduceToNat])
          exact ⟨by omega, f, fun i j hi hj => hf i j hi hj (by omega), rfl⟩
        | succ m ih =>
          intro f hm hf
          apply hL3
          simp only [L61_3, l61_3, ex,reduceIte,reduceCtorEq,Nat.reduceEqDiff,Nat.reduceLT,Nat.reduceLeDiff,Nat.reduceAdd,Nat.reduceSub,Nat.reduceMul,Int.reduceAdd,Int.reduceSub,Int.reduceMul,Int.reduceNeg,Int.reduceLE,Int.reduceLT,Int.reduceEq,Int.reduceToNat]
          have t3 : (((m + 1 : Nat) : Int) - 1) = (m : Int) := by omega
          have h1 : decide ((m : Int) ≥ 0) = true := by simp
          (try simp only [t3, h1, ex,reduceIte,reduceCtorEq,Nat.reduceEqDiff,Nat.reduceLT,Nat.reduceLeDiff,Nat.reduceAdd,Nat.reduceSub,Nat.reduceMul,Int.reduceAdd,Int.reduceSub,Int.reduceMul,Int.reduceNeg,Int.reduceLE,Int.reduceLT,Int.reduceEq,Int.reduceToNat]) <;> repeat ((with_reducible refine Req.intro ?_ ?_); (first | omega | (simp <;> omega)); try simp only [t3, h1, ex,reduceIte,reduceCtorEq,Nat.reduceEqDiff,Nat.reduceLT,Nat.reduceLeDiff,Nat.reduceAdd,Nat.reduceSub,Nat.reduceMul,Int.reduceAdd,Int.reduceSub,Int.reduceMul,Int.reduceNeg,Int.reduceLE,Int.reduceLT,Int.reduceEq,Int.reduceToNat])
          refine loopI fun L2 hL2 => ?_
          (try simp only [ex,reduceIte,reduceCtorEq,Nat.reduceEqDiff,Nat.reduceLT,Nat.reduceLeDiff,Nat.reduceAdd,Nat.reduceSub,Nat.reduceMul,Int.reduceAdd,Int.reduceSub,Int.reduceMul,Int.reduceNeg,Int.reduceLE,Int.reduceLT,Int.reduceEq,Int.reduceToNat]) <;> repeat ((with_reducible refine Req.intro ?_ ?_); (first | omega | (simp <;> omega)); try simp only [ex,reduceIte,reduceCtorEq,Nat.reduceEqDiff,Nat.reduceLT,Nat.reduceLeDiff,Nat.reduceAdd,Nat.reduceSub,Nat.reduceMul,Int.reduceAdd,Int.reduceSub,Int.reduceMul,Int.reduceNeg,Int.reduceLE,Int.reduceLT,Int.reduceEq,Int.reduceToNat])
          have key2 : ∀ (q : Nat) (f : Nat → Nat → Nat), q ≤ b.length → Right a b (m + 1) q f → L2 (L61_2 (.sl o 1 (a.map .str)) (.sl o' 1 (b.map .str)) (.hs n 1 0 (a.length + 1)) (.int .i64 (m : Int)) (.int .i64 ((q : Int) - 1)) (TB .u16 h n (a.length + 1) (b.length + 1) (hds n (b.length + 1) (a.length + 1)) f) (n + 1 + (a.length + 1))) := by
            intro q
            induction q with
            | zero =>
              intro f hq hf
              apply hL2
              simp only [L61_2, l61_2, ex,reduceIte,reduceCtorEq,Nat.reduceEqDiff,Nat.reduceLT,Nat.reduceLeDiff,Nat.reduceAdd,Nat.reduceSub,Nat.reduceMul,Int.reduceAdd,Int.reduceSub,Int.reduceMul,Int.reduceNeg,Int.reduceLE,Int.reduceLT,Int.reduceEq,Int.reduceToNat]
              have h1 : decide (((0 : Nat) : Int) - 1 ≥ 0) = false := by decide
              (try simp only [h1, ex,reduceIte,reduceCtorEq,Nat.reduceEqDiff,Nat.reduceLT,Nat.reduceLeDiff,Nat.reduceAdd,Nat.reduceSub,Nat.reduceMul,Int.reduceAdd,Int.reduceSub,Int.reduceMul,Int.reduceNeg,Int.reduceLE,Int.reduceLT,Int.reduceEq,Int.reduceToNat]) <;> repeat ((with_reducible refine Req.intro ?_ ?_); (first | omega | (simp <;> omega)); try simp only [h1, ex,reduceIte,reduceCtorEq,Nat.reduceEqDiff,Nat.reduceLT,Nat.reduceLeDiff,Nat.reduceAdd,Nat.reduceSub,Nat.reduceMul,Int.reduceAdd,Int.reduceSub,Int.reduceMul,Int.reduceNeg,Int.reduceLE,Int.reduceLT,Int.reduceEq,Int.reduceToNat])
              exact ih f (by omega) (Right.row hf)
            | succ q ih2 =>
              intro f hq hf
              apply hL2
              simp only [L61_2, l61_2, ex,reduceIte,reduceCtorEq,Nat.reduceEqDiff,Nat.reduceLT,Nat.reduceLeDiff,Nat.reduceAdd,Nat.reduceSub,Nat.reduceMul,Int.reduceAdd,Int.reduceSub,Int.reduceMul,Int.reduceNeg,Int.reduceLE,Int.reduceLT,Int.reduceEq,Int.reduceToNat]
              have t4 : (((q + 1 : Nat) : Int) - 1) = (q : Int) := by omega
              have h1 : decide ((q : Int) ≥ 0) = true := by simp
              have g1 : a[m]? = some (a[m]'(by omega)) := List.getElem?_eq_getElem _
              have g2 : b[q]? = some (b[q]'(by omega)) := List.getElem?_eq_getElem _
              generalize hx : a[m]'(by omega) = x at g1
              generalize hy : b[q]'(by omega) = y at g2
              have k0 := TB_outer (k := .u16) (m := a.length + 1) (w := b.length + 1) (hs := hds n (b.length + 1) (a.length + 1)) (f := f) hl
              have k1 := hds_get (n := n) (w := b.length + 1) (m := a.length + 1) (i := m) (by omega)
              have k2 := hds_get (n := n) (w := b.length + 1) (m := a.length + 1) (i := m + 1) (by omega)
              have k3 := TB_row (k := .u16) (m := a.length + 1) (w := b.length + 1) (hs := hds n (b.length + 1) (a.length + 1)) (f := f) (i := m) hl (by omega)
              have k4 := TB_row (k := .u16) (m := a.length + 1) (w := b.length + 1) (hs := hds n (b.length + 1) (a.length + 1)) (f := f) (i := m + 1) hl (by omega)
              have k5 := rowV_get (k := .u16) (w := b.length + 1) (f := f) (i := m) (j := q) (by omega)
              have k6 := rowV_get (k := .u16) (w := b.length + 1) (f := f) (i := m) (j := q + 1) (by omega)
              have k7 := rowV_get (k := .u16) (w := b.length + 1) (f := f) (i := m + 1) (j := q) (by omega)
              have k8 := rowV_get (k := .u16) (w := b.length + 1) (f := f) (i := m + 1) (j := q + 1) (by omega)
              have f1 := hf (m + 1) (q + 1) (by omega) (by omega) (by omega)
              have f2 := hf (m + 1) q (by omega) (by omega) (by omega)
              have f3 := hf m (q + 1) (by omega) (by omega) (by omega)
              have e1 := ent_le a b (m + 1) (q + 1)
              have hset := fun v => TB_set_row (k := .u16) (m := a.length + 1) (w := b.length + 1) (hs := hds n (b.length + 1) (a.length + 1)) (f := f) (i := m) (j := q) (v := v) hl (by omega)
              rcases Classical.em (x = y) with c | c
              · have g3 : decide (x = y) = true := by simpa using c
                subst c
                have h9 := ih2 _ (by omega) (Right.step hf)
                rw [ent_eq g1 g2] at h9
                have kw : IntKind.u16.wrap (((ent a b (m + 1) (q + 1) : Nat) : Int) + 1) = ((ent a b (m + 1) (q + 1) + 1 : Nat) : Int) := by
                  rw [u16_wrap (by omega) (by omega)]; rfl
                (try simp only [t4, h1, g1, g2, g3, k0, k1, k2, k3, k4, k5, k8, f1, kw, hset, ex,reduceIte,reduceCtorEq,Nat.reduceEqDiff,Nat.reduceLT,Nat.reduceLeDiff,Nat.reduceAdd,Nat.reduceSub,Nat.reduceMul,Int.reduceAdd,Int.reduceSub,Int.reduceMul,Int.reduceNeg,Int.reduceLE,Int.reduceLT,Int.reduceEq,Int.reduceToNat]) <;> repeat ((with_reducible refine Req.intro ?_ ?_); (first | omega | (simp <;> omega)); try simp only [t4, h1, g1, g2, g3, k0, k1, k2, k3, k4, k5, k8, f1, kw, hset, ex,reduceIte,reduceCtorEq,Nat.reduceEqDiff,Nat.reduceLT,Nat.reduceLeDiff,Nat.reduceAdd,Nat.reduceSub,Nat.reduceMul,Int.reduceAdd,Int.reduceSub,Int.reduceMul,Int.reduceNeg,Int.reduceLE,Int.reduceLT,Int.reduceEq,Int.reduceToNat])
                exact h9
              · have g3 : decide (x = y) = false := by simpa using c
                have h9 := ih2 _ (by omega) (Right.step hf)
                rw [ent_ne g1 g2 c] at h9
                (try simp only [t4, h1, g1, g2, g3, k0, k1, k2, k3, k4, k5, k6, k7, f2, f3, ifmax, hset, ex,reduceIte,reduceCtorEq,Nat.reduceEqDiff,Nat.reduceLT,Nat.reduceLeDiff,Nat.reduceAdd,Nat.reduceSub,Nat.reduceMul,Int.reduceAdd,Int.reduceSub,Int.reduceMul,Int.reduceNeg,Int.reduceLE,Int.reduceLT,Int.reduceEq,Int.reduceToNat]) <;> repeat ((with_reducible refine Req.intro ?_ ?_); (first | omega | (simp <;> omega)); try simp only [t4, h1, g1, g2, g3, k0, k1, k2, k3, k4, k5, k6, k7, f2, f3, ifmax, hset, ex,reduceIte,reduceCtorEq,Nat.reduceEqDiff,Nat.reduceLT,Nat.reduceLeDiff,Nat.reduceAdd,Nat.reduceSub,Nat.reduceMul,Int.reduceAdd,Int.reduceSub,Int.reduceMul,Int.reduceNeg,Int.reduceLE,Int.reduceLT,Int.reduceEq,Int.reduceToNat])
                exact h9
          exact key2 b.length f (Nat.le_refl _) hf
      exact key3 a.length (fun _ _ => 0) (Nat.le_refl _) (fun i j hi hj hh => (ent_end a b i j (by omega)).symm)
  exact key1 (a.length + 1) 0 (Nat.zero_add _)
end Go.Proofs.Ytnodepfoahmcmaa.E.Hs

/- diff.Unchanged and diff.Cost: walked. Conditions: none. -/
namespace Go.Proofs.Ytnodepfoahmcmaa.E.Hs
set_option linter.unusedVariables false
set_option linter.unusedSimpArgs false
set_option maxHeartbeats 20000000

structure Ed where
  f : Nat
  d : Nat
  t : Nat
  i : Nat deriving DecidableEq
def edV (e : Ed) : V := .agg [.int .i64 e.f, .int .i64 e.d, .int .i64 e.t, .int .i64 e.i]
def rnV (r : Rn) : V := .agg [.int .i64 r.A, .int .i64 r.B, .int .i64 r.N]
/-- No number is great. -/
def SmallE (l : List Ed) : Prop := l.length ≤ 1000000 ∧ ∀ e ∈ l, e.f ≤ 1000000 ∧ e.d ≤ 1000000 ∧ e.t ≤ 1000000 ∧ e.i ≤ 1000000
/-- The lines that stay. -/
def unch (n : Nat) : List Ed → Nat → Nat → List Rn
  | [], i, j => if i < n then [⟨i, j, n - i⟩] else []
  | e :: r, i, j => (if i < e.f then [⟨i, j, e.f - i⟩] else []) ++ unch n r (e.f + e.d) (e.t + e.i)
theorem unchanged_spec (o : Bool) (l : List Ed) (n : Nat) (hl : SmallE l) (hn : n ≤ 1000000) :
    Run tab 47 0 [.sl o 4 (l.map edV), .int .i64 n] [] 0 (fun r _ _ => r = .sl true 3 ((unch n l 0 0).map rnV)) := by
  refine enter (F := f47) rfl rfl ?_
  simp only [f47, ex,reduceIte,reduceCtorEq,Nat.reduceEqDiff,Nat.reduceLT,Nat.reduceLeDiff,Nat.reduceAdd,Nat.reduceSub,Nat.reduceMul,Int.reduceAdd,Int.reduceSub,Int.reduceMul,Int.reduceNeg,Int.reduceLE,Int.reduceLT,Int.reduceEq,Int.reduceToNat]
  (try simp only [ex,reduceIte,reduceCtorEq,Nat.reduceEqDiff,Nat.reduceLT,Nat.reduceLeDiff,Nat.reduceAdd,Nat.reduceSub,Nat.reduceMul,Int.reduceAdd,Int.reduceSub,Int.reduceMul,Int.reduceNeg,Int.reduceLE,Int.reduceLT,Int.reduceEq,Int.reduceToNat]) <;> repeat ((with_reducible refine Req.intro ?_ ?_); (first | omega | (simp <;> omega)); try simp only [ex,reduceIte,reduceCtorEq,Nat.reduceEqDiff,Nat.reduceLT,Nat.reduceLeDiff,Nat.reduceAdd,Nat.reduceSub,Nat.reduceMul,Int.reduceAdd,Int.reduceSub,Int.reduceMul,Int.reduceNeg,Int.reduceLE,Int.reduceLT,Int.reduceEq,Int.reduceToNat])
  refine loopI fun L hL => ?_
  (try simp only [ex,reduceIte,reduceCtorEq,Nat.reduceEqDiff,Nat.reduceLT,Nat.reduceLeDiff,Nat.reduceAdd,Nat.reduceSub,Nat.reduceMul,Int.reduceAdd,Int.reduceSub,Int.reduceMul,Int.reduceNeg,Int.reduceLE,Int.reduceLT,Int.reduceEq,Int.reduceToNat]) <;> repeat ((with_reducible refine Req.intro ?_ ?_); (first | omega | (simp <;> omega)); try simp only [ex,reduceIte,reduceCtorEq,Nat.reduceEqDiff,Nat.reduceLT,Nat.reduceLeDiff,Nat.reduceAdd,Nat.reduceSub,Nat.reduceMul,Int.reduceAdd,Int.reduceSub,Int.reduceMul,Int.reduceNeg,Int.reduceLE,Int.reduceLT,Int.reduceEq,Int.reduceToNat])
  have hlen := hl.1
  have key : ∀ (m p c i j : Nat) (out : List Rn), p + m = l.length → i ≤ 2000000 → j ≤ 2000000 → out.length ≤ p → out ++ unch n (l.drop p) i j = unch n l 0 0 →
      L (L47_1 (.int .i64 n) (.sl true 3 (out.map rnV)) (.int .i64 i) (.int .i64 j) (.sl o 4 (l.map edV)) (.int .i64 l.length) (.int .i64 p) [] c) := by
    intro m
    induction m with
    | zero =>
      intro p c i j out hp hi hj ho he
      apply hL
      simp only [L47_1, l47_1, ex,reduceIte,reduceCtorEq,Nat.reduceEqDiff,Nat.reduceLT,Nat.reduceLeDiff,Nat.reduceAdd,Nat.reduceSub,Nat.reduceMul,Int.reduceAdd,Int.reduceSub,Int.reduceMul,Int.reduceNeg,Int.reduceLE,Int.reduceLT,Int.reduceEq,Int.reduceToNat]
      have h1 : decide ((p : Int) < (l.length : Int)) = false := by simp; omega
      rw [List.drop_of_length_le (by omega), unch] at he
      rw [← he]
      rcases Nat.lt_or_ge i n with c | c
      · have h2 : decide ((n : Int) > (i : Int)) = true := by simp; omega
        have h3 : (n : Int) - (i : Int) = ((n - i : Nat) : Int) := by omega
        rw [if_pos c]
        (try simp only [h1, h2, h3, ex,reduceIte,reduceCtorEq,Nat.reduceEqDiff,Nat.reduceLT,Nat.reduceLeDiff,Nat.reduceAdd,Nat.reduceSub,Nat.reduceMul,Int.reduceAdd,Int.reduceSub,Int.reduceMul,Int.reduceNeg,Int.reduceLE,Int.reduceLT,Int.reduceEq,Int.reduceToNat]) <;> repeat ((with_reducible refine Req.intro ?_ ?_); (first | omega | (simp <;> omega)); try simp only [h1, h2, h3, ex,reduceIte,reduceCtorEq,Nat.reduceEqDiff,Nat.reduceLT,Nat.reduceLeDiff,Nat.reduceAdd,Nat.reduceSub,Nat.reduceMul,Int.reduceAdd,Int.reduceSub,Int.reduceMul,Int.reduceNeg,Int.reduceLE,Int.reduceLT,Int.reduceEq,Int.reduceToNat])
        simp [rnV]
      · have h2 : decide ((n : Int) > (i : Int)) = false := by simp; omega
        rw [if_neg (by omega)]
        (try simp only [h1, h2, List.append_nil, ex,reduceIte,reduceCtorEq,Nat.reduceEqDiff,Nat.reduceLT,Nat.reduceLeDiff,Nat.reduceAdd,Nat.reduceSub,Nat.reduceMul,Int.reduceAdd,Int.reduceSub,Int.reduceMul,Int.reduceNeg,Int.reduceLE,Int.reduceLT,Int.reduceEq,Int.reduceToNat]) <;> repeat ((with_reducible refine Req.intro ?_ ?_); (first | omega | (simp <;> omega)); try simp only [h1, h2, List.append_nil, ex,reduceIte,reduceCtorEq,Nat.reduceEqDiff,Nat.reduceLT,Nat.reduceLeDiff,Nat.reduceAdd,Nat.reduceSub,Nat.reduceMul,Int.reduceAdd,Int.reduceSub,Int.reduceMul,Int.reduceNeg,Int.reduceLE,Int.reduceLT,Int.reduceEq,Int.reduceToNat])
    | succ m ih =>
      intro p c i j out hp hi hj ho he
      apply hL
      simp only [L47_1, l47_1, ex,reduceIte,reduceCtorEq,Nat.reduceEqDiff,Nat.reduceLT,Nat.reduceLeDiff,Nat.reduceAdd,Nat.reduceSub,Nat.reduceMul,Int.reduceAdd,Int.reduceSub,Int.reduceMul,Int.reduceNeg,Int.reduceLE,Int.reduceLT,Int.reduceEq,Int.reduceToNat]
      have h1 : decide ((p : Int) < (l.length : Int)) = true := by simp; omega
      have g1 : l[p]? = some (l[p]'(by omega)) := List.getElem?_eq_getElem _
      have hb := hl.2 (l[p]'(by omega)) (List.getElem_mem _)
      rw [List.drop_eq_getElem_cons (by omega)] at he
      generalize hx : l[p]'(by omega) = e at g1 hb he
      rw [unch, ← List.append_assoc] at he
      have b1 := hb.1
      have b2 := hb.2.1
      have b3 := hb.2.2.1
      have b4 := hb.2.2.2
      rcases Nat.lt_or_ge i e.f with q | q
      · have h2 : decide ((e.f : Int) > (i : Int)) = true := by simp; omega
        have h3 : (e.f : Int) - (i : Int) = ((e.f - i : Nat) : Int) := by omega
        rw [if_pos q] at he
        have h9 := ih (p + 1) (c + 1) (e.f + e.d) (e.t + e.i) (out ++ [⟨i, j, e.f - i⟩]) (by omega) (by omega) (by omega) (by simp; omega) he
        rw [List.map_append] at h9
        (try simp only [h1, g1, edV, h2, h3, ex,reduceIte,reduceCtorEq,Nat.reduceEqDiff,Nat.reduceLT,Nat.reduceLeDiff,Nat.reduceAdd,Nat.reduceSub,Nat.reduceMul,Int.reduceAdd,Int.reduceSub,Int.reduceMul,Int.reduceNeg,Int.reduceLE,Int.reduceLT,Int.reduceEq,Int.reduceToNat]) <;> repeat ((with_reducible refine Req.intro ?_ ?_); (first | omega | (simp <;> omega)); try simp only [h1, g1, edV, h2, h3, ex,reduceIte,reduceCtorEq,Nat.reduceEqDiff,Nat.reduceLT,Nat.reduceLeDiff,Nat.reduceAdd,Nat.reduceSub,Nat.reduceMul,Int.reduceAdd,Int.reduceSub,Int.reduceMul,Int.reduceNeg,Int.reduceLE,Int.reduceLT,Int.reduceEq,Int.reduceToNat])
        exact h9
      · have h2 : decide ((e.f : Int) > (i : Int)) = false := by simp; omega
        rw [if_neg (by omega), List.append_nil] at he
        have h9 := ih (p + 1) (c + 1) (e.f + e.d) (e.t + e.i) out (by omega) (by omega) (by omega) (by omega) he
        (try simp only [h1, g1, edV, h2, ex,reduceIte,reduceCtorEq,Nat.reduceEqDiff,Nat.reduceLT,Nat.reduceLeDiff,Nat.reduceAdd,Nat.reduceSub,Nat.reduceMul,Int.reduceAdd,Int.reduceSub,Int.reduceMul,Int.reduceNeg,Int.reduceLE,Int.reduceLT,Int.reduceEq,Int.reduceToNat]) <;> repeat ((with_reducible refine Req.intro ?_ ?_); (first | omega | (simp <;> omega)); try simp only [h1, g1, edV, h2, ex,reduceIte,reduceCtorEq,Nat.reduceEqDiff,Nat.reduceLT,Nat.reduceLeDiff,Nat.reduceAdd,Nat.reduceSub,Nat.reduceMul,Int.reduceAdd,Int.reduceSub,Int.reduceMul,Int.reduceNeg,Int.reduceLE,Int.reduceLT,Int.reduceEq,Int.reduceToNat])
        exact h9
  exact key l.length 0 0 0 0 [] (Nat.zero_add _) (by omega) (by omega) (by simp) (by simp)

end Go.Proofs.Ytnodepfoahmcmaa.E.Hs

/- Edits out of runs: graftageref08.Of and diff.FromRuns, walked at runs that fit. Conditions: none. -/
namespace Go.Proofs.Ytnodepfoahmcmaa.E.Hs
set_option linter.unusedVariables false
set_option linter.unusedSimpArgs false
set_option maxHeartbeats 20000000
set_option maxRecDepth 100000

end Go.Proofs.Ytnodepfoahmcmaa.E.Hs

/- Least scripts in plain lists: alignments, the greedy one, its script, the runs that stay. Conditions: none. -/
namespace Go.Proofs.Ytnodepfoahmcmaa.E.Hs
set_option linter.unusedVariables false
set_option linter.unusedSimpArgs false
set_option maxHeartbeats 20000000

section
variable {α : Type} [DecidableEq α]
/-- What becomes of a line: it stays, goes, or comes. -/
inductive Op where
  | K | D | I
deriving DecidableEq
/-- An alignment of two lists. -/
inductive Al : List α → List α → List Op → Prop where
  | nil : Al [] [] []
  | keep (x : α) {a b : List α} {o : List Op} (h : Al a b o) : Al (x :: a) (x :: b) (Op.K :: o)
  | del (x : α) {a b : List α} {o : List Op} (h : Al a b o) : Al (x :: a) b (Op.D :: o)
  | ins (y : α) {a b : List α} {o : List Op} (h : Al a b o) : Al a (y :: b) (Op.I :: o)
def kept (o : List Op) : Nat := o.countP (· == Op.K)
def paid (o : List Op) : Nat := o.countP (· != Op.K)
theorem kept_K (o : List Op) : kept (Op.K :: o) = kept o + 1 := by simp [kept]
theorem kept_D (o : List Op) : kept (Op.D :: o) = kept o := by simp [kept]
theorem kept_I (o : List Op) : kept (Op.I :: o) = kept o := by simp [kept]
theorem paid_K (o : List Op) : paid (Op.K :: o) = paid o := by simp [paid]
theorem paid_D (o : List Op) : paid (Op.D :: o) = paid o + 1 := by simp [paid]
theorem paid_I (o : List Op) : paid (Op.I :: o) = paid o + 1 := by simp [paid]
omit [DecidableEq α] in
theorem Al.lens {a b : List α} {o : List Op} (h : Al a b o) : paid o + 2 * kept o = a.length + b.length := by
  induction h with
  | nil => simp [paid, kept]
  | keep x h ih => rw [kept_K, paid_K]; simp only [List.length_cons]; omega
  | del x h ih => rw [kept_D, paid_D]; simp only [List.length_cons]; omega
  | ins y h ih => rw [kept_I, paid_I]; simp only [List.length_cons]; omega
/-- The alignment that one rule tells. -/
def greedy : List α → List α → List Op
  | [], [] => []
  | _ :: a, [] => Op.D :: greedy a []
  | [], _ :: b => Op.I :: greedy [] b
  | x :: a, y :: b => if x = y then Op.K :: greedy a b else if lcs (x :: a) b ≤ lcs a (y :: b) then Op.D :: greedy a (y :: b) else Op.I :: greedy (x :: a) b
termination_by a b => a.length + b.length
theorem greedy_al : ∀ n (a b : List α), a.length + b.length ≤ n → Al a b (greedy a b) ∧ kept (greedy a b) = lcs a b := by
  intro n
  induction n with
  | zero =>
    intro a b h
    have ha : a = [] := List.eq_nil_of_length_eq_zero (by omega)
    have hb : b = [] := List.eq_nil_of_length_eq_zero (by omega)
    subst ha hb
    rw [greedy]
    exact ⟨Al.nil, by simp [kept, lcs_nil]⟩
  | succ n ih =>
    intro a b h
    cases a with
    | nil =>
      cases b with
      | nil => rw [greedy]; exact ⟨Al.nil, by simp [kept, lcs_nil]⟩
      | cons y b =>
        have := ih [] b (by simp at h ⊢; omega)
        rw [greedy, kept_I, this.2]
        exact ⟨Al.ins y this.1, by rw [lcs_nil, lcs_nil]⟩
    | cons x a =>
      cases b with
      | nil =>
        have := ih a [] (by simp at h ⊢; omega)
        rw [greedy, kept_D, this.2]
        exact ⟨Al.del x this.1, by rw [lcs_nil2, lcs_nil2]⟩
      | cons y b =>
        simp only [List.length_cons] at h
        rw [greedy]
        by_cases e : x = y
        · subst e
          have := ih a b (by omega)
          rw [if_pos rfl, kept_K, lcs_same, this.2]
          exact ⟨Al.keep x this.1, rfl⟩
        · rw [if_neg e, lcs_ne e]
          by_cases c : lcs (x :: a) b ≤ lcs a (y :: b)
          · have := ih a (y :: b) (by simp; omega)
            rw [if_pos c, kept_D, this.2]
            exact ⟨Al.del x this.1, by omega⟩
          · have := ih (x :: a) b (by simp; omega)
            rw [if_neg c, kept_I, this.2]
            exact ⟨Al.ins y this.1, by omega⟩
theorem greedy_is (a b : List α) : Al a b (greedy a b) := (greedy_al _ a b (Nat.le_refl _)).1
theorem greedy_kept (a b : List α) : kept (greedy a b) = lcs a b := (greedy_al _ a b (Nat.le_refl _)).2
theorem greedy_end {a b : List α} {i j : Nat} (h1 : a.length ≤ i) (h2 : b.length ≤ j) : greedy (a.drop i) (b.drop j) = [] := by
  rw [List.drop_of_length_le h1, List.drop_of_length_le h2, greedy]
theorem greedy_K {a b : List α} {i j : Nat} {x : α} (h1 : a[i]? = some x) (h2 : b[j]? = some x) : greedy (a.drop i) (b.drop j) = .K :: greedy (a.drop (i + 1)) (b.drop (j + 1)) := by
  obtain ⟨l1, e1⟩ := List.getElem?_eq_some_iff.1 h1
  obtain ⟨l2, e2⟩ := List.getElem?_eq_some_iff.1 h2
  rw [List.drop_eq_getElem_cons l1, List.drop_eq_getElem_cons l2, e1, e2, greedy, if_pos rfl]
theorem greedy_D0 {a b : List α} {i j : Nat} (h1 : i < a.length) (h2 : b.length ≤ j) : greedy (a.drop i) (b.drop j) = .D :: greedy (a.drop (i + 1)) (b.drop j) := by
  rw [List.drop_eq_getElem_cons h1, List.drop_of_length_le h2, greedy]
theorem greedy_I0 {a b : List α} {i j : Nat} (h1 : a.length ≤ i) (h2 : j < b.length) : greedy (a.drop i) (b.drop j) = .I :: greedy (a.drop i) (b.drop (j + 1)) := by
  rw [List.drop_of_length_le h1, List.drop_eq_getElem_cons h2, greedy]
theorem greedy_D {a b : List α} {i j : Nat} {x y : α} (h1 : a[i]? = some x) (h2 : b[j]? = some y) (h : x ≠ y) (hc : ent a b i (j + 1) ≤ ent a b (i + 1) j) : greedy (a.drop i) (b.drop j) = .D :: greedy (a.drop (i + 1)) (b.drop j) := by
  obtain ⟨l1, e1⟩ := List.getElem?_eq_some_iff.1 h1
  obtain ⟨l2, e2⟩ := List.getElem?_eq_some_iff.1 h2
  unfold ent at hc
  rw [List.drop_eq_getElem_cons l1, List.drop_eq_getElem_cons l2] at hc
  rw [List.drop_eq_getElem_cons l1, List.drop_eq_getElem_cons l2, greedy, if_neg (by rw [e1, e2]; exact h), if_pos hc]
theorem greedy_I {a b : List α} {i j : Nat} {x y : α} (h1 : a[i]? = some x) (h2 : b[j]? = some y) (h : x ≠ y) (hc : ¬ ent a b i (j + 1) ≤ ent a b (i + 1) j) : greedy (a.drop i) (b.drop j) = .I :: greedy (a.drop i) (b.drop (j + 1)) := by
  obtain ⟨l1, e1⟩ := List.getElem?_eq_some_iff.1 h1
  obtain ⟨l2, e2⟩ := List.getElem?_eq_some_iff.1 h2
  unfold ent at hc
  rw [List.drop_eq_getElem_cons l1, List.drop_eq_getElem_cons l2] at hc
  rw [List.drop_eq_getElem_cons l1, List.drop_eq_getElem_cons l2, greedy, if_neg (by rw [e1, e2]; exact h), if_neg hc]
theorem greedy_len (a b : List α) : (greedy a b).length ≤ a.length + b.length := by
  have h := (greedy_is a b).lens
  have : (greedy a b).length = kept (greedy a b) + paid (greedy a b) := by
    unfold kept paid
    have := List.length_eq_countP_add_countP (fun q => q == Op.K) (l := greedy a b)
    rw [this]
    congr 1
    apply List.countP_congr
    intro q _
    cases q <;> simp
  omega
end
/-- The script of an alignment: 'cur' is the edit that is under way. -/
def scr : List Op → Nat → Nat → Option Ed → List Ed
  | [], _, _, cur => cur.toList
  | Op.K :: o, i, j, cur => cur.toList ++ scr o (i + 1) (j + 1) none
  | Op.D :: o, i, j, none => scr o (i + 1) j (some ⟨i, 1, j, 0⟩)
  | Op.D :: o, i, j, some e => scr o (i + 1) j (some ⟨e.f, e.d + 1, e.t, e.i⟩)
  | Op.I :: o, i, j, none => scr o i (j + 1) (some ⟨i, 0, j, 1⟩)
  | Op.I :: o, i, j, some e => scr o i (j + 1) (some ⟨e.f, e.d, e.t, e.i + 1⟩)
def leastEd (a b : List S) : List Ed := if 4096 < a.length ∨ 4096 < b.length then (if a = b then [] else [⟨0, a.length, 0, b.length⟩]) else scr (greedy a b) 0 0 none
theorem scr_keeps (p : Nat) (o : List Op) : ∀ (i j : Nat), scr (List.replicate p Op.K ++ o) i j none = scr o (i + p) (j + p) none := by
  induction p with
  | zero => intro i j; simp
  | succ p ih =>
    intro i j
    rw [List.replicate_succ, List.cons_append, scr, ih]
    simp only [Option.toList_none, List.nil_append]
    congr 1 <;> omega
theorem greedy_pre : ∀ (a b : List S), greedy a b = List.replicate (lcp a b) Op.K ++ greedy (a.drop (lcp a b)) (b.drop (lcp a b))
  | [], b => by simp [lcp]
  | x :: a, [] => by simp [lcp]
  | x :: a, y :: b => by
    rw [lcp]
    by_cases e : x = y
    · rw [if_pos e, greedy, if_pos e, List.replicate_succ, List.cons_append, List.drop_succ_cons, List.drop_succ_cons, ← greedy_pre a b]
    · rw [if_neg e]
      rfl
theorem scr_pre (a b : List S) : scr (greedy a b) 0 0 none = scr (greedy (a.drop (lcp a b)) (b.drop (lcp a b))) (lcp a b) (lcp a b) none := by
  conv => lhs; rw [greedy_pre, scr_keeps, Nat.zero_add]
theorem scr_small (M : Nat) : ∀ (o : List Op) (i j : Nat) (cur : Option Ed), i + o.length ≤ M → j + o.length ≤ M → (∀ e ∈ cur, e.f + e.d ≤ i ∧ e.t + e.i ≤ j) → (∀ e ∈ scr o i j cur, e.f + e.d ≤ M ∧ e.t + e.i ≤ M) ∧ (scr o i j cur).length ≤ o.length + cur.toList.length := by
  intro o
  induction o with
  | nil =>
    intro i j cur h h' hc
    refine ⟨fun e he => ?_, ?_⟩
    · have := hc e (by simpa [scr] using he); omega
    · simp [scr]
  | cons q o ih =>
    intro i j cur h h' hc
    simp only [List.length_cons] at h h' ⊢
    cases q with
    | K =>
      have h9 := ih (i + 1) (j + 1) none (by omega) (by omega) (by simp)
      rw [scr]
      refine ⟨fun e he => ?_, ?_⟩
      · rcases List.mem_append.1 he with he | he
        · have := hc e (by simpa using he); omega
        · exact h9.1 e he
      · have := h9.2
        simp at this ⊢; omega
    | D =>
      cases cur with
      | none =>
        have h9 := ih (i + 1) j (some ⟨i, 1, j, 0⟩) (by omega) (by omega) (by simp)
        rw [scr]
        exact ⟨h9.1, by have := h9.2; simp at this ⊢; omega⟩
      | some e =>
        have := hc e rfl
        have h9 := ih (i + 1) j (some ⟨e.f, e.d + 1, e.t, e.i⟩) (by omega) (by omega) (by simp; omega)
        rw [scr]
        exact ⟨h9.1, by have := h9.2; simp at this ⊢; omega⟩
    | I =>
      cases cur with
      | none =>
        have h9 := ih i (j + 1) (some ⟨i, 0, j, 1⟩) (by omega) (by omega) (by simp)
        rw [scr]
        exact ⟨h9.1, by have := h9.2; simp at this ⊢; omega⟩
      | some e =>
        have := hc e rfl
        have h9 := ih i (j + 1) (some ⟨e.f, e.d, e.t, e.i + 1⟩) (by omega) (by omega) (by simp; omega)
        rw [scr]
        exact ⟨h9.1, by have := h9.2; simp at this ⊢; omega⟩
theorem leastEd_small (a b : List S) (ha : a.length ≤ 100000) (hb : b.length ≤ 100000) : SmallE (leastEd a b) ∧ (leastEd a b).length ≤ a.length + b.length + 1 := by
  unfold leastEd
  have hg := greedy_len a b
  have h9 := scr_small 200000 (greedy a b) 0 0 none (by omega) (by omega) (by simp)
  split
  · split
    · exact ⟨⟨by simp, by simp⟩, by simp⟩
    · exact ⟨⟨by simp, by simp; omega⟩, by simp⟩
  · have h8 := h9.2
    simp only [Option.toList_none, List.length_nil, Nat.add_zero] at h8
    exact ⟨⟨by omega, fun e he => by have := h9.1 e he; omega⟩, by omega⟩

/-- The lists are the same there. -/
def Seg (a b : List S) (x y k : Nat) : Prop := x + k ≤ a.length ∧ y + k ≤ b.length ∧ (a.drop x).take k = (b.drop y).take k
/-- Runs of common lines, one behind the other. -/
def Com (a b : List S) : List Rn → Nat → Nat → Prop
  | [], i, j => i ≤ a.length ∧ j ≤ b.length
  | r :: l, i, j => 1 ≤ r.N ∧ i ≤ r.A ∧ j ≤ r.B ∧ Seg a b r.A r.B r.N ∧ Com a b l (r.A + r.N) (r.B + r.N)
def sumN (l : List Rn) : Nat := (l.map fun r => r.N).sum
theorem Com.mono {a b : List S} {l : List Rn} {i j i' j' : Nat} (h : Com a b l i j) (h1 : i' ≤ i) (h2 : j' ≤ j) : Com a b l i' j' := by
  cases l with
  | nil => exact ⟨by have := h.1; omega, by have := h.2; omega⟩
  | cons r l => exact ⟨h.1, by have := h.2.1; omega, by have := h.2.2.1; omega, h.2.2.2⟩
theorem Seg.snoc {a b : List S} {x y k : Nat} {s : S} (h : Seg a b x y k) (h1 : a[x + k]? = some s) (h2 : b[y + k]? = some s) : Seg a b x y (k + 1) := by
  obtain ⟨l1, e1⟩ := List.getElem?_eq_some_iff.1 h1
  obtain ⟨l2, e2⟩ := List.getElem?_eq_some_iff.1 h2
  refine ⟨by omega, by omega, ?_⟩
  rw [List.take_add_one, List.take_add_one, h.2.2, List.getElem?_drop, List.getElem?_drop, h1, h2]
theorem Com.cons0 {a b : List S} {l : List Rn} {x y k : Nat} (h : Com a b l (x + k) (y + k)) (hs : Seg a b x y k) : Com a b ((if 0 < k then [⟨x, y, k⟩] else []) ++ l) x y ∧ sumN ((if 0 < k then [⟨x, y, k⟩] else []) ++ l) = k + sumN l := by
  by_cases c : 0 < k
  · rw [if_pos c]
    exact ⟨⟨c, Nat.le_refl _, Nat.le_refl _, hs, h⟩, by simp [sumN]⟩
  · rw [if_neg c]
    exact ⟨h.mono (by omega) (by omega), by simp [sumN]; omega⟩
theorem unch_scr {a b : List S} : ∀ {a' b' : List S} {o : List Op}, Al a' b' o → ∀ (i j x y k : Nat), a' = a.drop i → b' = b.drop j → i ≤ a.length → j ≤ b.length → Seg a b x y k →
    (i = x + k → j = y + k → Com a b (unch a.length (scr o i j none) x y) x y ∧ sumN (unch a.length (scr o i j none) x y) = k + kept o) ∧
    (x + k ≤ i → y + k ≤ j → Com a b (unch a.length (scr o i j (some ⟨x + k, i - (x + k), y + k, j - (y + k)⟩)) x y) x y ∧ sumN (unch a.length (scr o i j (some ⟨x + k, i - (x + k), y + k, j - (y + k)⟩)) x y) = k + kept o) := by
  intro a' b' o h
  induction h with
  | nil =>
    intro i j x y k h1 h2 hi hj hs
    have hi' : i = a.length := by have := congrArg List.length h1; simp at this; omega
    have hj' : j = b.length := by have := congrArg List.length h2; simp at this; omega
    refine ⟨fun e1 e2 => ?_, fun e1 e2 => ?_⟩
    · have h9 := Com.cons0 (l := []) (k := k) ⟨hs.1, hs.2.1⟩ hs
      simp only [scr, Option.toList_none, unch, kept, List.countP_nil]
      rw [List.append_nil] at h9
      rw [show (if x < a.length then [(⟨x, y, a.length - x⟩ : Rn)] else []) = if 0 < k then [⟨x, y, k⟩] else [] by
        by_cases c : 0 < k
        · rw [if_pos c, if_pos (by omega), show a.length - x = k by omega]
        · rw [if_neg c, if_neg (by omega)]]
      exact ⟨h9.1, by rw [h9.2]; simp [sumN]⟩
    · have h9 := Com.cons0 (l := []) (k := k) ⟨hs.1, hs.2.1⟩ hs
      simp only [scr, Option.toList_some, unch, kept, List.countP_nil]
      rw [if_neg (by omega : ¬ x + k + (i - (x + k)) < a.length), show x + k - x = k by omega]
      rw [show (if x < x + k then [(⟨x, y, k⟩ : Rn)] else []) = if 0 < k then [⟨x, y, k⟩] else [] by
        by_cases c : 0 < k
        · rw [if_pos c, if_pos (by omega)]
        · rw [if_neg c, if_neg (by omega)]]
      exact ⟨h9.1, by rw [h9.2]; simp [sumN]⟩
  | @keep s a' b' o h ih =>
    intro i j x y k h1 h2 hi hj hs
    have l1 : i < a.length := by have := congrArg List.length h1; simp at this; omega
    have l2 : j < b.length := by have := congrArg List.length h2; simp at this; omega
    rw [List.drop_eq_getElem_cons l1] at h1
    rw [List.drop_eq_getElem_cons l2] at h2
    injection h1 with q1 h1
    injection h2 with q2 h2
    have g1 : a[i]? = some s := by rw [List.getElem?_eq_getElem l1, q1]
    have g2 : b[j]? = some s := by rw [List.getElem?_eq_getElem l2, q2]
    refine ⟨fun e1 e2 => ?_, fun e1 e2 => ?_⟩
    · subst e1 e2
      have h9 := (ih (x + k + 1) (y + k + 1) x y (k + 1) h1 h2 (by omega) (by omega) (hs.snoc g1 g2)).1 (by omega) (by omega)
      rw [scr, Option.toList_none, List.nil_append, kept_K]
      exact ⟨h9.1, by rw [h9.2]; omega⟩
    · have h9 := (ih (i + 1) (j + 1) i j 1 h1 h2 (by omega) (by omega) (Seg.snoc (k := 0) ⟨by omega, by omega, by simp⟩ g1 g2)).1 rfl rfl
      rw [scr, Option.toList_some, List.singleton_append, unch, kept_K]
      simp only
      rw [show x + k + (i - (x + k)) = i by omega, show y + k + (j - (y + k)) = j by omega, show x + k - x = k by omega]
      rw [show (if x < x + k then [(⟨x, y, k⟩ : Rn)] else []) = if 0 < k then [⟨x, y, k⟩] else [] by
        by_cases c : 0 < k
        · rw [if_pos c, if_pos (by omega)]
        · rw [if_neg c, if_neg (by omega)]]
      have h8 := Com.cons0 (k := k) (h9.1.mono e1 e2) hs
      exact ⟨h8.1, by rw [h8.2, h9.2]; omega⟩
  | @del s a' b' o h ih =>
    intro i j x y k h1 h2 hi hj hs
    have l1 : i < a.length := by have := congrArg List.length h1; simp at this; omega
    rw [List.drop_eq_getElem_cons l1] at h1
    injection h1 with q1 h1
    refine ⟨fun e1 e2 => ?_, fun e1 e2 => ?_⟩
    · subst e1 e2
      have h9 := (ih (x + k + 1) (y + k) x y k h1 h2 (by omega) (by omega) hs).2 (by omega) (by omega)
      rw [show x + k + 1 - (x + k) = 1 by omega, Nat.sub_self] at h9
      rw [scr, kept_D]
      exact h9
    · have h9 := (ih (i + 1) j x y k h1 h2 (by omega) (by omega) hs).2 (by omega) (by omega)
      rw [show i + 1 - (x + k) = i - (x + k) + 1 by omega] at h9
      rw [scr, kept_D]
      exact h9
  | @ins s a' b' o h ih =>
    intro i j x y k h1 h2 hi hj hs
    have l2 : j < b.length := by have := congrArg List.length h2; simp at this; omega
    rw [List.drop_eq_getElem_cons l2] at h2
    injection h2 with q2 h2
    refine ⟨fun e1 e2 => ?_, fun e1 e2 => ?_⟩
    · subst e1 e2
      have h9 := (ih (x + k) (y + k + 1) x y k h1 h2 (by omega) (by omega) hs).2 (by omega) (by omega)
      rw [show y + k + 1 - (y + k) = 1 by omega, Nat.sub_self] at h9
      rw [scr, kept_I]
      exact h9
    · have h9 := (ih i (j + 1) x y k h1 h2 (by omega) (by omega) hs).2 (by omega) (by omega)
      rw [show j + 1 - (y + k) = j - (y + k) + 1 by omega] at h9
      rw [scr, kept_I]
      exact h9
/-- The runs that the least script leaves. -/
def leastRn (a b : List S) : List Rn := unch a.length (leastEd a b) 0 0
theorem leastRn_com (a b : List S) (ha : a.length ≤ 4096) (hb : b.length ≤ 4096) : Com a b (leastRn a b) 0 0 ∧ sumN (leastRn a b) = lcs a b := by
  unfold leastRn leastEd
  rw [if_neg (by omega)]
  have h9 := (unch_scr (a := a) (b := b) (greedy_is a b) 0 0 0 0 0 (by simp) (by simp) (by omega) (by omega) ⟨by omega, by omega, by simp⟩).1 rfl rfl
  rw [greedy_kept, Nat.zero_add] at h9
  exact h9
theorem unch_len (n : Nat) : ∀ (l : List Ed) (i j : Nat), (unch n l i j).length ≤ l.length + 1
  | [], i, j => by unfold unch; split <;> simp
  | e :: l, i, j => by
    have := unch_len n l (e.f + e.d) (e.t + e.i)
    unfold unch
    split <;> (simp; omega)
end Go.Proofs.Ytnodepfoahmcmaa.E.Hs

/- The closure of diff.Least: walked. Conditions: none. -/
namespace Go.Proofs.Ytnodepfoahmcmaa.E.Hs
set_option linter.unusedVariables false
set_option linter.unusedSimpArgs false
set_option maxHeartbeats 20000000
set_option maxRecDepth 100000

/-- The blocks of Least behind those of H: the variable out, the variable open, the edits. -/
def lH (H : Heap) (c b : Nat) (op : Bool) (out : List Ed) : Heap := H ++ (c, .rows 1 [.agg [if out = [] then .hs 0 0 0 0 else .hs b 4 0 out.length]]) :: (c + 1, .rows 1 [.agg [.bool op]]) :: (if out = [] then [] else [(b, .rows 4 (out.map edV))])
theorem at_spec (H : Heap) (c b n : Nat) (op : Bool) (out : List Ed) (ah i j : Nat) (hl : Low H c) (h0 : get H 0 = some (.rows 1 [.agg [.int .i64 ah]])) (hc : 0 < c) (hb : c + 1 < b) (hn : out ≠ [] → b < n) (hn2 : c + 1 < n) (ho : op = true → out ≠ []) (h1 : out.length ≤ 1000000) (h2 : ah + i ≤ 1000000) (h3 : ah + j ≤ 1000000) :
    Run tab 62 0 [.int .i64 i, .int .i64 j, .ptr (c + 1) 1 0 0, .ptr c 1 0 0, .ptr 0 1 0 0] (lH H c b op out) n (fun r h' n' => ∃ b' pre e, r = .ptr b' 4 pre.length 0 ∧ h' = lH H c b' true (pre ++ [e]) ∧ c + 1 < b' ∧ b' < n' ∧ n ≤ n' ∧ (op = true → out = pre ++ [e]) ∧ (op = false → pre = out ∧ e = ⟨ah + i, 0, ah + j, 0⟩)) := by
  refine enter (F := f62) rfl rfl ?_
  simp only [f62, ex,reduceIte,reduceCtorEq,Nat.reduceEqDiff,Nat.reduceLT,Nat.reduceLeDiff,Nat.reduceAdd,Nat.reduceSub,Nat.reduceMul,Int.reduceAdd,Int.reduceSub,Int.reduceMul,Int.reduceNeg,Int.reduceLE,Int.reduceLT,Int.reduceEq,Int.reduceToNat]
  cases op with
  | true =>
    have ho := ho rfl
    have q1 : out.length ≠ 0 := fun e => ho (List.eq_nil_of_length_eq_zero e)
    have g0 := fun l => get_app (l := l) hl (Nat.le_refl c)
    have g1 : ∀ l, get (H ++ l) (c + 1) = get l (c + 1) := fun l => get_app (l := l) hl (Nat.le_succ c)
    have e1 : (c + 1 = c) = False := by simp
    (try simp only [lH, ho, g0, g1, e1, ex,reduceIte,reduceCtorEq,Nat.reduceEqDiff,Nat.reduceLT,Nat.reduceLeDiff,Nat.reduceAdd,Nat.reduceSub,Nat.reduceMul,Int.reduceAdd,Int.reduceSub,Int.reduceMul,Int.reduceNeg,Int.reduceLE,Int.reduceLT,Int.reduceEq,Int.reduceToNat]) <;> repeat ((with_reducible refine Req.intro ?_ ?_); (first | omega | (simp <;> omega)); try simp only [lH, ho, g0, g1, e1, ex,reduceIte,reduceCtorEq,Nat.reduceEqDiff,Nat.reduceLT,Nat.reduceLeDiff,Nat.reduceAdd,Nat.reduceSub,Nat.reduceMul,Int.reduceAdd,Int.reduceSub,Int.reduceMul,Int.reduceNeg,Int.reduceLE,Int.reduceLT,Int.reduceEq,Int.reduceToNat])
    have k1 : out = out.dropLast ++ [out.getLast ho] := (List.dropLast_concat_getLast ho).symm
    have k2 : out.dropLast.length + 1 = out.length := by rw [List.length_dropLast]; omega
    refine ⟨b, out.dropLast, out.getLast ho, ?_, ?_, hb, hn ho, fun _ => k1, fun h => h.elim⟩
    · rw [show ((out.length : Int) - 1).toNat = out.dropLast.length by omega]
    · rw [← k1, if_neg ho, if_neg ho]
  | false =>
    have g0 := fun l => get_app (l := l) hl (Nat.le_refl c)
    have g1 : ∀ l, get (H ++ l) (c + 1) = get l (c + 1) := fun l => get_app (l := l) hl (Nat.le_succ c)
    have g2 := fun l => get_app (l := l) hl (show c ≤ b by omega)
    have s0 := fun l x => set_app (l := l) (x := x) hl (Nat.le_refl c)
    have s1 : ∀ l x, set (H ++ l) (c + 1) x = H ++ set l (c + 1) x := fun l x => set_app (l := l) (x := x) hl (Nat.le_succ c)
    have s2 := fun l x => set_app (l := l) (x := x) hl (show c ≤ n by omega)
    have d2 := fun l => del_app (l := l) hl (show c ≤ b by omega)
    have e1 : (c + 1 = c) = False := by simp
    have e2 : (b = c) = False := by simp; omega
    have e3 : (b = c + 1) = False := by simp; omega
    have e4 : (n = c) = False := by simp; omega
    have e5 : (n = c + 1) = False := by simp; omega
    have e6 : (n < c) = False := by simp; omega
    have e7 : (n < c + 1) = False := by simp; omega
    have e8 : (c < c + 1) = True := by simp
    have e9 : (c + 1 < c) = False := by simp
    have ea : (c < c) = False := by simp
    have eb : (c + 1 < c + 1) = False := by simp
    have f1 : (0 = c) = False := by simp; omega
    have f2 : (0 = c + 1) = False := by simp
    have f3 : (0 = b) = False := by simp; omega
    have f4 : (0 = n) = False := by simp; omega
    have gz : ∀ x y, get (H ++ [(c, x), (c + 1, y)]) 0 = get H 0 := fun x y => get_low hl (by simp only [get_cons, f1, f2, if_false, get])
    have gz' : ∀ x y z, get (H ++ [(c, x), (c + 1, y), (b, z)]) 0 = get H 0 := fun x y z => get_low hl (by simp only [get_cons, f1, f2, f3, if_false, get])
    rcases Classical.em (out = []) with q | q
    · (try simp only [lH, q, g0, g1, g2, e1, gz, gz', h0, s0, s1, s2, d2, e2, e3, e4, e5, e6, e7, e8, e9, ea, eb, appB_nil, appB_put, apB_rows, del_cons, edV, ex,reduceIte,reduceCtorEq,Nat.reduceEqDiff,Nat.reduceLT,Nat.reduceLeDiff,Nat.reduceAdd,Nat.reduceSub,Nat.reduceMul,Int.reduceAdd,Int.reduceSub,Int.reduceMul,Int.reduceNeg,Int.reduceLE,Int.reduceLT,Int.reduceEq,Int.reduceToNat]) <;> repeat ((with_reducible refine Req.intro ?_ ?_); (first | omega | (simp <;> omega)); try simp only [lH, q, g0, g1, g2, e1, gz, gz', h0, s0, s1, s2, d2, e2, e3, e4, e5, e6, e7, e8, e9, ea, eb, appB_nil, appB_put, apB_rows, del_cons, edV, ex,reduceIte,reduceCtorEq,Nat.reduceEqDiff,Nat.reduceLT,Nat.reduceLeDiff,Nat.reduceAdd,Nat.reduceSub,Nat.reduceMul,Int.reduceAdd,Int.reduceSub,Int.reduceMul,Int.reduceNeg,Int.reduceLE,Int.reduceLT,Int.reduceEq,Int.reduceToNat])
      exact ⟨n, [], ⟨ah + i, 0, ah + j, 0⟩, rfl, by simp [edV], by omega, by omega, by omega, fun h => h.elim, fun _ => ⟨rfl, rfl⟩⟩
    · (try simp only [lH, q, g0, g1, g2, e1, gz, gz', h0, s0, s1, s2, d2, e2, e3, e4, e5, e6, e7, e8, e9, ea, eb, appB_nil, appB_put, apB_rows, del_cons, edV, ex,reduceIte,reduceCtorEq,Nat.reduceEqDiff,Nat.reduceLT,Nat.reduceLeDiff,Nat.reduceAdd,Nat.reduceSub,Nat.reduceMul,Int.reduceAdd,Int.reduceSub,Int.reduceMul,Int.reduceNeg,Int.reduceLE,Int.reduceLT,Int.reduceEq,Int.reduceToNat]) <;> repeat ((with_reducible refine Req.intro ?_ ?_); (first | omega | (simp <;> omega)); try simp only [lH, q, g0, g1, g2, e1, gz, gz', h0, s0, s1, s2, d2, e2, e3, e4, e5, e6, e7, e8, e9, ea, eb, appB_nil, appB_put, apB_rows, del_cons, edV, ex,reduceIte,reduceCtorEq,Nat.reduceEqDiff,Nat.reduceLT,Nat.reduceLeDiff,Nat.reduceAdd,Nat.reduceSub,Nat.reduceMul,Int.reduceAdd,Int.reduceSub,Int.reduceMul,Int.reduceNeg,Int.reduceLE,Int.reduceLT,Int.reduceEq,Int.reduceToNat])
      have q2 : ((out.length : Int) + 1 - 1).toNat = out.length := by omega
      exact ⟨n, out, ⟨ah + i, 0, ah + j, 0⟩, by simp, by simp [edV], by omega, by omega, by omega, fun h => h.elim, fun _ => ⟨rfl, rfl⟩⟩
end Go.Proofs.Ytnodepfoahmcmaa.E.Hs

/- diff.Least: walked. Conditions: none. -/
namespace Go.Proofs.Ytnodepfoahmcmaa.E.Hs
set_option linter.unusedVariables false
set_option linter.unusedSimpArgs false
set_option maxHeartbeats 20000000
set_option maxRecDepth 100000

section
variable {H : Heap} {c b : Nat} {op : Bool} {out : List Ed}
theorem lH_low (hl : Low H c) (hb : c + 1 < b) {k : Nat} (hk : k < c) : get (lH H c b op out) k = get H k := by
  unfold lH
  refine get_low hl ?_
  have f1 : (k = c) = False := by simp; omega
  have f2 : (k = c + 1) = False := by simp; omega
  have f3 : (k = b) = False := by simp; omega
  split
  · simp only [get_cons, f1, f2, if_false, get]
  · simp only [get_cons, f1, f2, f3, if_false, get]
theorem lH_open (hl : Low H c) (x : Bool) : set (lH H c b op out) (c + 1) (.rows 1 [.agg [.bool x]]) = lH H c b x out := by
  unfold lH
  rw [set_app hl (by omega)]
  simp [set_cons]
theorem lH_getOpen (hl : Low H c) : get (lH H c b op out) (c + 1) = some (.rows 1 [.agg [.bool op]]) := by
  unfold lH
  rw [get_app hl (by omega)]
  simp [get_cons]
theorem lH_getOut (hl : Low H c) : get (lH H c b op out) c = some (.rows 1 [.agg [if out = [] then .hs 0 0 0 0 else .hs b 4 0 out.length]]) := by
  unfold lH
  rw [get_app hl (by omega)]
  simp [get_cons]
theorem lH_row (hl : Low H c) (hb : c + 1 < b) (ho : out ≠ []) : get (lH H c b op out) b = some (.rows 4 (out.map edV)) := by
  unfold lH
  rw [get_app hl (by omega), if_neg ho, if_neg ho]
  simp only [get_cons]
  rw [if_neg (by omega), if_neg (by omega)]
  simp
theorem lH_put (hl : Low H c) (hb : c + 1 < b) (pre : List Ed) (e e' : Ed) : set (lH H c b op (pre ++ [e])) b (.rows 4 (pre.map edV ++ [edV e'])) = lH H c b op (pre ++ [e']) := by
  unfold lH
  rw [set_app hl (by omega), if_neg (by simp), if_neg (by simp), if_neg (by simp), if_neg (by simp)]
  simp only [set_cons]
  rw [if_neg (by omega), if_neg (by omega), if_neg (by omega), if_neg (by omega)]
  simp
end
theorem all_edV : ∀ l : List Ed, (l.map edV).all noH2 = true
  | [] => rfl
  | e :: l => by simp only [List.map_cons, List.all_cons, all_edV l, Bool.and_true]; rfl
theorem map_clr2_edV (l : List Ed) : (l.map edV).map clr2 = l.map edV := by
  rw [List.map_map]; rfl
theorem frz_lH {H : Heap} {c b : Nat} {op : Bool} {out : List Ed} (hl : Low H c) (hb : c + 1 < b) (ho : out ≠ []) : W (E.hf (.frz 4) [.hs b 4 0 out.length] (lH H c b op out) 0) (fun q => q.1 = .sl false 4 (out.map edV)) := by
  simp only [E.hf, lH_row hl hb ho]
  rw [if_neg (by decide), if_pos trivial, if_pos ⟨trivial, by simp, all_edV out⟩]
  show V.sl false 4 _ = _
  rw [List.drop_zero, List.take_of_length_le (by simp), map_clr2_edV]
theorem nilH (H : Heap) (c : Nat) (hl : Low H c) (x : Blk) : set H c x = H ++ [(c, x)] := by
  have := set_app (l := []) (x := x) hl (Nat.le_refl _)
  rw [List.append_nil] at this
  rw [this]; rfl

theorem TB_low {k : IntKind} {h : Heap} {n m w : Nat} {hs : List V} {f : Nat → Nat → Nat} (hl : Low h n) : Low (TB k h n m w hs f) (n + 1 + m) := by
  intro p hp
  unfold TB at hp
  rcases List.mem_append.1 hp with hp | hp
  · have := hl p hp; omega
  · rcases List.mem_cons.1 hp with rfl | hp
    · simp only; omega
    · obtain ⟨i, hi, rfl⟩ := List.mem_map.1 hp
      have := List.mem_range.1 hi
      simp only; omega
theorem cur_step {out pre p : List Ed} {cur : Option Ed} {e : Ed} {x y q r : Nat} (ho : out = pre ++ cur.toList) (h1 : cur.isSome = true → out = p ++ [e]) (h2 : cur.isSome = false → p = out ∧ e = ⟨x, 0, y, 0⟩) (hc : ∀ e ∈ cur, e.d ≤ q ∧ e.i ≤ r) :
    p = pre ∧ e.d ≤ q ∧ e.i ≤ r ∧ (∀ o, scr (.I :: o) x y cur = scr o x (y + 1) (some ⟨e.f, e.d, e.t, e.i + 1⟩)) ∧ (∀ o, scr (.D :: o) x y cur = scr o (x + 1) y (some ⟨e.f, e.d + 1, e.t, e.i⟩)) := by
  cases cur with
  | none =>
    obtain ⟨rfl, rfl⟩ := h2 rfl
    refine ⟨by simpa using ho, Nat.zero_le _, Nat.zero_le _, fun o => rfl, fun o => rfl⟩
  | some e' =>
    have h2 := h1 rfl
    rw [ho] at h2
    have := List.append_inj' h2 rfl
    have h3 : e' = e := by simpa using this.2
    subst h3
    have := hc e' rfl
    exact ⟨by simp_all, this.1, this.2, fun o => rfl, fun o => rfl⟩
theorem least_spec (o o' : Bool) (a b : List S) (ha : a.length ≤ 4096) (hb : b.length ≤ 4096) :
    Run tab 48 0 [.sl o 1 (a.map .str), .sl o' 1 (b.map .str)] [] 0 (fun r _ _ => r = .sl false 4 ((leastEd a b).map edV)) := by
  have hp := lcp_le a b
  have hend := lcp_end a b
  have hlt := lcp_lt a b
  have hsc := scr_pre a b
  have hle : leastEd a b = scr (greedy a b) 0 0 none := by unfold leastEd; rw [if_neg (by omega)]
  have hgl := greedy_len a b
  rw [hle, hsc]
  clear hle hsc
  generalize lcp a b = p at *
  refine enter (F := f48) rfl rfl ?_
  simp only [f48, ex,reduceIte,reduceCtorEq,Nat.reduceEqDiff,Nat.reduceLT,Nat.reduceLeDiff,Nat.reduceAdd,Nat.reduceSub,Nat.reduceMul,Int.reduceAdd,Int.reduceSub,Int.reduceMul,Int.reduceNeg,Int.reduceLE,Int.reduceLT,Int.reduceEq,Int.reduceToNat]
  have z1 : decide ((a.length : Int) > 4096) = false := by simp; omega
  have z2 : decide ((b.length : Int) > 4096) = false := by simp; omega
  (try simp only [z1, z2, ex,reduceIte,reduceCtorEq,Nat.reduceEqDiff,Nat.reduceLT,Nat.reduceLeDiff,Nat.reduceAdd,Nat.reduceSub,Nat.reduceMul,Int.reduceAdd,Int.reduceSub,Int.reduceMul,Int.reduceNeg,Int.reduceLE,Int.reduceLT,Int.reduceEq,Int.reduceToNat]) <;> repeat ((with_reducible refine Req.intro ?_ ?_); (first | omega | (simp <;> omega)); try simp only [z1, z2, ex,reduceIte,reduceCtorEq,Nat.reduceEqDiff,Nat.reduceLT,Nat.reduceLeDiff,Nat.reduceAdd,Nat.reduceSub,Nat.reduceMul,Int.reduceAdd,Int.reduceSub,Int.reduceMul,Int.reduceNeg,Int.reduceLE,Int.reduceLT,Int.reduceEq,Int.reduceToNat])
  refine loopI fun L hL => ?_
  (try simp only [ex,reduceIte,reduceCtorEq,Nat.reduceEqDiff,Nat.reduceLT,Nat.reduceLeDiff,Nat.reduceAdd,Nat.reduceSub,Nat.reduceMul,Int.reduceAdd,Int.reduceSub,Int.reduceMul,Int.reduceNeg,Int.reduceLE,Int.reduceLT,Int.reduceEq,Int.reduceToNat]) <;> repeat ((with_reducible refine Req.intro ?_ ?_); (first | omega | (simp <;> omega)); try simp only [ex,reduceIte,reduceCtorEq,Nat.reduceEqDiff,Nat.reduceLT,Nat.reduceLeDiff,Nat.reduceAdd,Nat.reduceSub,Nat.reduceMul,Int.reduceAdd,Int.reduceSub,Int.reduceMul,Int.reduceNeg,Int.reduceLE,Int.reduceLT,Int.reduceEq,Int.reduceToNat])
  have key : ∀ m i : Nat, i + m = p → L (L48_1 (.sl o 1 (a.map .str)) (.sl o' 1 (b.map .str)) (.ptr 0 1 0 0) [(0, .rows 1 [.agg [.int .i64 i]])] 1) := by
    intro m
    induction m with
    | succ m ih =>
      intro i hi
      apply hL
      simp only [L48_1, l48_1, ex,reduceIte,reduceCtorEq,Nat.reduceEqDiff,Nat.reduceLT,Nat.reduceLeDiff,Nat.reduceAdd,Nat.reduceSub,Nat.reduceMul,Int.reduceAdd,Int.reduceSub,Int.reduceMul,Int.reduceNeg,Int.reduceLE,Int.reduceLT,Int.reduceEq,Int.reduceToNat]
      have h1 : decide ((i : Int) < (a.length : Int)) = true := by simp; omega
      have h2 : decide ((i : Int) < (b.length : Int)) = true := by simp; omega
      have hs := hlt i (by omega)
      have g1 := hs.choose_spec.1
      have g2 := hs.choose_spec.2
      generalize hs.choose = x at g1 g2
      have h3 : decide (x = x) = true := by simp
      (try simp only [h1, h2, g1, g2, h3, ex,reduceIte,reduceCtorEq,Nat.reduceEqDiff,Nat.reduceLT,Nat.reduceLeDiff,Nat.reduceAdd,Nat.reduceSub,Nat.reduceMul,Int.reduceAdd,Int.reduceSub,Int.reduceMul,Int.reduceNeg,Int.reduceLE,Int.reduceLT,Int.reduceEq,Int.reduceToNat]) <;> repeat ((with_reducible refine Req.intro ?_ ?_); (first | omega | (simp <;> omega)); try simp only [h1, h2, g1, g2, h3, ex,reduceIte,reduceCtorEq,Nat.reduceEqDiff,Nat.reduceLT,Nat.reduceLeDiff,Nat.reduceAdd,Nat.reduceSub,Nat.reduceMul,Int.reduceAdd,Int.reduceSub,Int.reduceMul,Int.reduceNeg,Int.reduceLE,Int.reduceLT,Int.reduceEq,Int.reduceToNat])
      exact ih (i + 1) (by omega)
    | zero =>
      intro i hi
      have hi' : i = p := by omega
      subst hi'
      apply hL
      simp only [L48_1, l48_1, ex,reduceIte,reduceCtorEq,Nat.reduceEqDiff,Nat.reduceLT,Nat.reduceLeDiff,Nat.reduceAdd,Nat.reduceSub,Nat.reduceMul,Int.reduceAdd,Int.reduceSub,Int.reduceMul,Int.reduceNeg,Int.reduceLE,Int.reduceLT,Int.reduceEq,Int.reduceToNat]
      apply shareL
      · intro share
        rcases Nat.lt_or_ge i a.length with c1 | c1
        · have h1 : decide ((i : Int) < (a.length : Int)) = true := by simp; omega
          rcases Nat.lt_or_ge i b.length with c2 | c2
          · have h2 : decide ((i : Int) < (b.length : Int)) = true := by simp; omega
            have g1 : a[i]? = some (a[i]'(by omega)) := List.getElem?_eq_getElem _
            have g2 : b[i]? = some (b[i]'(by omega)) := List.getElem?_eq_getElem _
            have h3 : decide (a[i]'(by omega) = b[i]'(by omega)) = false := by simpa using hend _ _ g1 g2
            (try simp only [h1, h2, g1, g2, h3, ex,reduceIte,reduceCtorEq,Nat.reduceEqDiff,Nat.reduceLT,Nat.reduceLeDiff,Nat.reduceAdd,Nat.reduceSub,Nat.reduceMul,Int.reduceAdd,Int.reduceSub,Int.reduceMul,Int.reduceNeg,Int.reduceLE,Int.reduceLT,Int.reduceEq,Int.reduceToNat]) <;> repeat ((with_reducible refine Req.intro ?_ ?_); (first | omega | (simp <;> omega)); try simp only [h1, h2, g1, g2, h3, ex,reduceIte,reduceCtorEq,Nat.reduceEqDiff,Nat.reduceLT,Nat.reduceLeDiff,Nat.reduceAdd,Nat.reduceSub,Nat.reduceMul,Int.reduceAdd,Int.reduceSub,Int.reduceMul,Int.reduceNeg,Int.reduceLE,Int.reduceLT,Int.reduceEq,Int.reduceToNat])
            exact share.out
          · have h2 : decide ((i : Int) < (b.length : Int)) = false := by simp; omega
            (try simp only [h1, h2, ex,reduceIte,reduceCtorEq,Nat.reduceEqDiff,Nat.reduceLT,Nat.reduceLeDiff,Nat.reduceAdd,Nat.reduceSub,Nat.reduceMul,Int.reduceAdd,Int.reduceSub,Int.reduceMul,Int.reduceNeg,Int.reduceLE,Int.reduceLT,Int.reduceEq,Int.reduceToNat]) <;> repeat ((with_reducible refine Req.intro ?_ ?_); (first | omega | (simp <;> omega)); try simp only [h1, h2, ex,reduceIte,reduceCtorEq,Nat.reduceEqDiff,Nat.reduceLT,Nat.reduceLeDiff,Nat.reduceAdd,Nat.reduceSub,Nat.reduceMul,Int.reduceAdd,Int.reduceSub,Int.reduceMul,Int.reduceNeg,Int.reduceLE,Int.reduceLT,Int.reduceEq,Int.reduceToNat])
            exact share.out
        · have h1 : decide ((i : Int) < (a.length : Int)) = false := by simp; omega
          (try simp only [h1, ex,reduceIte,reduceCtorEq,Nat.reduceEqDiff,Nat.reduceLT,Nat.reduceLeDiff,Nat.reduceAdd,Nat.reduceSub,Nat.reduceMul,Int.reduceAdd,Int.reduceSub,Int.reduceMul,Int.reduceNeg,Int.reduceLE,Int.reduceLT,Int.reduceEq,Int.reduceToNat]) <;> repeat ((with_reducible refine Req.intro ?_ ?_); (first | omega | (simp <;> omega)); try simp only [h1, ex,reduceIte,reduceCtorEq,Nat.reduceEqDiff,Nat.reduceLT,Nat.reduceLeDiff,Nat.reduceAdd,Nat.reduceSub,Nat.reduceMul,Int.reduceAdd,Int.reduceSub,Int.reduceMul,Int.reduceNeg,Int.reduceLE,Int.reduceLT,Int.reduceEq,Int.reduceToNat])
          exact share.out
      · have hla : (a.drop i).length = a.length - i := by simp
        have hlb : (b.drop i).length = b.length - i := by simp
        have hg2 := greedy_len (a.drop i) (b.drop i)
        generalize a.drop i = a' at *
        generalize b.drop i = b' at *
        refine CallH.any (table_spec _ _ a' b' (by omega) (by omega) [(0, .rows 1 [.agg [.int .i64 i]])] 1 (fun p hp => by simp at hp; subst hp; simp)) ?_
        intro r h' n' hx
        have hr := hx.1
        have hn0 := hx.2.1
        have hx2 := hx.2.2.choose_spec
        generalize hx.2.2.choose = f at hx2
        have hf := hx2.1
        have hh0 := hx2.2
        clear hx hx2
        have hlow1 : Low [(0, Blk.rows 1 [.agg [.int .i64 (i : Int)]])] 1 := fun p hp => by simp at hp; subst hp; simp
        have hlow := TB_low (k := .u16) (m := a'.length + 1) (w := b'.length + 1) (hs := hds 1 (b'.length + 1) (a'.length + 1)) (f := f) hlow1
        have hz : get (TB .u16 [(0, Blk.rows 1 [.agg [.int .i64 (i : Int)]])] 1 (a'.length + 1) (b'.length + 1) (hds 1 (b'.length + 1) (a'.length + 1)) f) 0 = some (.rows 1 [.agg [.int .i64 (i : Int)]]) := rfl
        have hT := TB_outer (k := .u16) (m := a'.length + 1) (w := b'.length + 1) (hs := hds 1 (b'.length + 1) (a'.length + 1)) (f := f) hlow1
        have hR : ∀ q, q ≤ a'.length → get (TB .u16 [(0, Blk.rows 1 [.agg [.int .i64 (i : Int)]])] 1 (a'.length + 1) (b'.length + 1) (hds 1 (b'.length + 1) (a'.length + 1)) f) (2 + q) = some (.rows 1 (rowV .u16 (b'.length + 1) f q)) := fun q hq => TB_row hlow1 (by omega)
        generalize TB .u16 [(0, Blk.rows 1 [.agg [.int .i64 (i : Int)]])] 1 (a'.length + 1) (b'.length + 1) (hds 1 (b'.length + 1) (a'.length + 1)) f = H at *
        have hc0 : a'.length + 3 = 1 + (a'.length + 2) := by omega
        have hcc : 1 + 1 + (a'.length + 1) = 1 + (a'.length + 2) := by omega
        rw [hcc] at hlow
        clear hcc
        generalize hc : 1 + (a'.length + 2) = c at *
        have w0 := nilH H c hlow
        have w1 : ∀ l x, set (H ++ l) (c + 1) x = H ++ set l (c + 1) x := fun l x => set_app hlow (by omega)
        have w2 : ∀ l, get (H ++ l) (c + 1) = get l (c + 1) := fun l => get_app hlow (by omega)
        have e1 : (c + 1 = c) = False := by simp
        have e2 : (c + 1 < c) = False := by simp
        have e3 : (c + 1 < c + 1) = False := by simp
        have hc1 : 1 + (c - 1) = c := by omega
        have ea : (c < c) = False := by simp
        (try simp only [hr, hn0, hh0, hc1, w0, w1, w2, e1, e2, e3, ea, ex,reduceIte,reduceCtorEq,Nat.reduceEqDiff,Nat.reduceLT,Nat.reduceLeDiff,Nat.reduceAdd,Nat.reduceSub,Nat.reduceMul,Int.reduceAdd,Int.reduceSub,Int.reduceMul,Int.reduceNeg,Int.reduceLE,Int.reduceLT,Int.reduceEq,Int.reduceToNat]) <;> repeat ((with_reducible refine Req.intro ?_ ?_); (first | omega | (simp <;> omega)); try simp only [hr, hn0, hh0, hc1, w0, w1, w2, e1, e2, e3, ea, ex,reduceIte,reduceCtorEq,Nat.reduceEqDiff,Nat.reduceLT,Nat.reduceLeDiff,Nat.reduceAdd,Nat.reduceSub,Nat.reduceMul,Int.reduceAdd,Int.reduceSub,Int.reduceMul,Int.reduceNeg,Int.reduceLE,Int.reduceLT,Int.reduceEq,Int.reduceToNat])
        refine loopI fun L2 hL2 => ?_
        (try simp only [ex,reduceIte,reduceCtorEq,Nat.reduceEqDiff,Nat.reduceLT,Nat.reduceLeDiff,Nat.reduceAdd,Nat.reduceSub,Nat.reduceMul,Int.reduceAdd,Int.reduceSub,Int.reduceMul,Int.reduceNeg,Int.reduceLE,Int.reduceLT,Int.reduceEq,Int.reduceToNat]) <;> repeat ((with_reducible refine Req.intro ?_ ?_); (first | omega | (simp <;> omega)); try simp only [ex,reduceIte,reduceCtorEq,Nat.reduceEqDiff,Nat.reduceLT,Nat.reduceLeDiff,Nat.reduceAdd,Nat.reduceSub,Nat.reduceMul,Int.reduceAdd,Int.reduceSub,Int.reduceMul,Int.reduceNeg,Int.reduceLE,Int.reduceLT,Int.reduceEq,Int.reduceToNat])
        have key2 : ∀ (m q r b n : Nat) (out pre : List Ed) (cur : Option Ed), q + r + m = a'.length + b'.length → q ≤ a'.length → r ≤ b'.length → out = pre ++ cur.toList → pre ++ scr (greedy (a'.drop q) (b'.drop r)) (i + q) (i + r) cur = scr (greedy a' b') i i none → c + 1 < b → (out ≠ [] → b < n) → c + 1 < n → out.length ≤ q + r → (∀ e ∈ cur, e.d ≤ q ∧ e.i ≤ r) →
            L2 (L48_2 (.sl false 1 (a'.map .str)) (.sl false 1 (b'.map .str)) (.hs 1 1 0 (a'.length + 1)) (.ptr c 1 0 0) (.ptr (c + 1) 1 0 0) (.fn 62 [.ptr (c + 1) 1 0 0, .ptr c 1 0 0, .ptr 0 1 0 0]) (.int .i64 q) (.int .i64 r) (lH H c b cur.isSome out) n) := by
          intro m
          induction m using Nat.strongRecOn with
          | _ m ih =>
            intro q r b n out pre cur hm hq hr ho he hb hn hn2 hol hcur
            apply hL2
            simp only [L48_2, l48_2, ex,reduceIte,reduceCtorEq,Nat.reduceEqDiff,Nat.reduceLT,Nat.reduceLeDiff,Nat.reduceAdd,Nat.reduceSub,Nat.reduceMul,Int.reduceAdd,Int.reduceSub,Int.reduceMul,Int.reduceNeg,Int.reduceLE,Int.reduceLT,Int.reduceEq,Int.reduceToNat]
            rcases Nat.eq_zero_or_pos m with m0 | m0
            · have h1 : decide ((q : Int) < (a'.length : Int)) = false := by simp; omega
              have h2 : decide ((r : Int) < (b'.length : Int)) = false := by simp; omega
              rw [greedy_end (by omega) (by omega), scr, ← ho] at he
              rw [← he]
              have k1 := lH_getOut (b := b) (op := cur.isSome) (out := out) hlow
              rcases Classical.em (out = []) with e | e
              · subst e
                (try simp only [h1, h2, k1, frB, ex,reduceIte,reduceCtorEq,Nat.reduceEqDiff,Nat.reduceLT,Nat.reduceLeDiff,Nat.reduceAdd,Nat.reduceSub,Nat.reduceMul,Int.reduceAdd,Int.reduceSub,Int.reduceMul,Int.reduceNeg,Int.reduceLE,Int.reduceLT,Int.reduceEq,Int.reduceToNat]) <;> repeat ((with_reducible refine Req.intro ?_ ?_); (first | omega | (simp <;> omega)); try simp only [h1, h2, k1, frB, ex,reduceIte,reduceCtorEq,Nat.reduceEqDiff,Nat.reduceLT,Nat.reduceLeDiff,Nat.reduceAdd,Nat.reduceSub,Nat.reduceMul,Int.reduceAdd,Int.reduceSub,Int.reduceMul,Int.reduceNeg,Int.reduceLE,Int.reduceLT,Int.reduceEq,Int.reduceToNat])
                rfl
              · have k2 := lH_row (op := cur.isSome) hlow hb e
                have k3 : (4 = 0) = False := by decide
                (try simp only [h1, h2, k1, e, frB, k2, k3, ex,reduceIte,reduceCtorEq,Nat.reduceEqDiff,Nat.reduceLT,Nat.reduceLeDiff,Nat.reduceAdd,Nat.reduceSub,Nat.reduceMul,Int.reduceAdd,Int.reduceSub,Int.reduceMul,Int.reduceNeg,Int.reduceLE,Int.reduceLT,Int.reduceEq,Int.reduceToNat]) <;> repeat ((with_reducible refine Req.intro ?_ ?_); (first | omega | (simp <;> omega)); try simp only [h1, h2, k1, e, frB, k2, k3, ex,reduceIte,reduceCtorEq,Nat.reduceEqDiff,Nat.reduceLT,Nat.reduceLeDiff,Nat.reduceAdd,Nat.reduceSub,Nat.reduceMul,Int.reduceAdd,Int.reduceSub,Int.reduceMul,Int.reduceNeg,Int.reduceLE,Int.reduceLT,Int.reduceEq,Int.reduceToNat])
                exact frz_lH hlow hb e
            · have s1 := lH_open (b := b) (op := cur.isSome) (out := out) hlow false
              have gO := lH_getOpen (b := b) (op := cur.isSome) (out := out) hlow
              have gL : ∀ k, k < c → get (lH H c b cur.isSome out) k = get H k := fun k hk => lH_low hlow hb hk
              apply shareL
              · intro shareD
                apply shareL
                · intro shareI
                  rcases Nat.lt_or_ge q a'.length with c1 | c1
                  · have h1 : decide ((q : Int) < (a'.length : Int)) = true := by simp; omega
                    rcases Nat.lt_or_ge r b'.length with c2 | c2
                    · have h2 : decide ((r : Int) < (b'.length : Int)) = true := by simp; omega
                      have h4 : decide ((r : Int) = (b'.length : Int)) = false := by simp; omega
                      have g1 : a'[q]? = some (a'[q]'(by omega)) := List.getElem?_eq_getElem _
                      have g2 : b'[r]? = some (b'[r]'(by omega)) := List.getElem?_eq_getElem _
                      generalize hx : a'[q]'(by omega) = x at g1
                      generalize hy : b'[r]'(by omega) = y at g2
                      rcases Classical.em (x = y) with e | e
                      · subst e
                        have h3 : decide (x = x) = true := by simp
                        rw [greedy_K g1 g2, scr, ← List.append_assoc, ← ho] at he
                        have h9 := ih (m - 2) (by omega) (q + 1) (r + 1) b n out out none (by omega) (by omega) (by omega) (by simp) he hb hn hn2 (by omega) (by simp)
                        (try simp only [h1, h2, g1, g2, h3, gO, s1, ex,reduceIte,reduceCtorEq,Nat.reduceEqDiff,Nat.reduceLT,Nat.reduceLeDiff,Nat.reduceAdd,Nat.reduceSub,Nat.reduceMul,Int.reduceAdd,Int.reduceSub,Int.reduceMul,Int.reduceNeg,Int.reduceLE,Int.reduceLT,Int.reduceEq,Int.reduceToNat]) <;> repeat ((with_reducible refine Req.intro ?_ ?_); (first | omega | (simp <;> omega)); try simp only [h1, h2, g1, g2, h3, gO, s1, ex,reduceIte,reduceCtorEq,Nat.reduceEqDiff,Nat.reduceLT,Nat.reduceLeDiff,Nat.reduceAdd,Nat.reduceSub,Nat.reduceMul,Int.reduceAdd,Int.reduceSub,Int.reduceMul,Int.reduceNeg,Int.reduceLE,Int.reduceLT,Int.reduceEq,Int.reduceToNat])
                        exact h9
                      · have h3 : decide (x = y) = false := by simpa using e
                        have t0 := gL 1 (by omega)
                        have t1 := gL (2 + q) (by omega)
                        have t2 := gL (2 + (q + 1)) (by omega)
                        have t3 := hR q (by omega)
                        have t4 := hR (q + 1) (by omega)
                        have k1 := hds_get (n := 1) (w := b'.length + 1) (m := a'.length + 1) (i := q) (by omega)
                        have k2 := hds_get (n := 1) (w := b'.length + 1) (m := a'.length + 1) (i := q + 1) (by omega)
                        have k5 := rowV_get (k := .u16) (w := b'.length + 1) (f := f) (i := q + 1) (j := r) (by omega)
                        have k6 := rowV_get (k := .u16) (w := b'.length + 1) (f := f) (i := q) (j := r + 1) (by omega)
                        have f1 := hf (q + 1) r (by omega) (by omega)
                        have f2 := hf q (r + 1) (by omega) (by omega)
                        rcases Classical.em (ent a' b' q (r + 1) ≤ ent a' b' (q + 1) r) with e2 | e2
                        · have h5 : decide (((ent a' b' (q + 1) r : Nat) : Int) ≥ ((ent a' b' q (r + 1) : Nat) : Int)) = true := by simp; omega
                          have gd := greedy_D g1 g2 e e2
                          (try simp only [h1, h2, g1, g2, h3, h4, t0, t1, t2, t3, t4, k1, k2, k5, k6, f1, f2, h5, hT, ex,reduceIte,reduceCtorEq,Nat.reduceEqDiff,Nat.reduceLT,Nat.reduceLeDiff,Nat.reduceAdd,Nat.reduceSub,Nat.reduceMul,Int.reduceAdd,Int.reduceSub,Int.reduceMul,Int.reduceNeg,Int.reduceLE,Int.reduceLT,Int.reduceEq,Int.reduceToNat]) <;> repeat ((with_reducible refine Req.intro ?_ ?_); (first | omega | (simp <;> omega)); try simp only [h1, h2, g1, g2, h3, h4, t0, t1, t2, t3, t4, k1, k2, k5, k6, f1, f2, h5, hT, ex,reduceIte,reduceCtorEq,Nat.reduceEqDiff,Nat.reduceLT,Nat.reduceLeDiff,Nat.reduceAdd,Nat.reduceSub,Nat.reduceMul,Int.reduceAdd,Int.reduceSub,Int.reduceMul,Int.reduceNeg,Int.reduceLE,Int.reduceLT,Int.reduceEq,Int.reduceToNat])
                          exact (shareD.out : _ → _ → _) gd c1
                        · have h5 : decide (((ent a' b' (q + 1) r : Nat) : Int) ≥ ((ent a' b' q (r + 1) : Nat) : Int)) = false := by simp; omega
                          have gd := greedy_I g1 g2 e e2
                          (try simp only [h1, h2, g1, g2, h3, h4, t0, t1, t2, t3, t4, k1, k2, k5, k6, f1, f2, h5, hT, ex,reduceIte,reduceCtorEq,Nat.reduceEqDiff,Nat.reduceLT,Nat.reduceLeDiff,Nat.reduceAdd,Nat.reduceSub,Nat.reduceMul,Int.reduceAdd,Int.reduceSub,Int.reduceMul,Int.reduceNeg,Int.reduceLE,Int.reduceLT,Int.reduceEq,Int.reduceToNat]) <;> repeat ((with_reducible refine Req.intro ?_ ?_); (first | omega | (simp <;> omega)); try simp only [h1, h2, g1, g2, h3, h4, t0, t1, t2, t3, t4, k1, k2, k5, k6, f1, f2, h5, hT, ex,reduceIte,reduceCtorEq,Nat.reduceEqDiff,Nat.reduceLT,Nat.reduceLeDiff,Nat.reduceAdd,Nat.reduceSub,Nat.reduceMul,Int.reduceAdd,Int.reduceSub,Int.reduceMul,Int.reduceNeg,Int.reduceLE,Int.reduceLT,Int.reduceEq,Int.reduceToNat])
                          exact (shareI.out : _ → _ → _) gd c2
                    · have h2 : decide ((r : Int) < (b'.length : Int)) = false := by simp; omega
                      have h4 : decide ((r : Int) = (b'.length : Int)) = true := by simp; omega
                      have gd := greedy_D0 (b := b') c1 c2
                      (try simp only [h1, h2, h4, ex,reduceIte,reduceCtorEq,Nat.reduceEqDiff,Nat.reduceLT,Nat.reduceLeDiff,Nat.reduceAdd,Nat.reduceSub,Nat.reduceMul,Int.reduceAdd,Int.reduceSub,Int.reduceMul,Int.reduceNeg,Int.reduceLE,Int.reduceLT,Int.reduceEq,Int.reduceToNat]) <;> repeat ((with_reducible refine Req.intro ?_ ?_); (first | omega | (simp <;> omega)); try simp only [h1, h2, h4, ex,reduceIte,reduceCtorEq,Nat.reduceEqDiff,Nat.reduceLT,Nat.reduceLeDiff,Nat.reduceAdd,Nat.reduceSub,Nat.reduceMul,Int.reduceAdd,Int.reduceSub,Int.reduceMul,Int.reduceNeg,Int.reduceLE,Int.reduceLT,Int.reduceEq,Int.reduceToNat])
                      exact (shareD.out : _ → _ → _) gd c1
                  · have h1 : decide ((q : Int) < (a'.length : Int)) = false := by simp; omega
                    have h2 : decide ((r : Int) < (b'.length : Int)) = true := by simp; omega
                    have h4 : decide ((r : Int) = (b'.length : Int)) = false := by simp; omega
                    have c2 : r < b'.length := by omega
                    have gd := greedy_I0 (j := r) c1 c2
                    (try simp only [h1, h2, h4, ex,reduceIte,reduceCtorEq,Nat.reduceEqDiff,Nat.reduceLT,Nat.reduceLeDiff,Nat.reduceAdd,Nat.reduceSub,Nat.reduceMul,Int.reduceAdd,Int.reduceSub,Int.reduceMul,Int.reduceNeg,Int.reduceLE,Int.reduceLT,Int.reduceEq,Int.reduceToNat]) <;> repeat ((with_reducible refine Req.intro ?_ ?_); (first | omega | (simp <;> omega)); try simp only [h1, h2, h4, ex,reduceIte,reduceCtorEq,Nat.reduceEqDiff,Nat.reduceLT,Nat.reduceLeDiff,Nat.reduceAdd,Nat.reduceSub,Nat.reduceMul,Int.reduceAdd,Int.reduceSub,Int.reduceMul,Int.reduceNeg,Int.reduceLE,Int.reduceLT,Int.reduceEq,Int.reduceToNat])
                    exact (shareI.out : _ → _ → _) gd c2
                · intro gd c2
                  refine CallH.any (at_spec H c b n cur.isSome out i q r hlow hz (by omega) hb hn hn2 (fun h e => by rw [e] at ho; cases cur <;> simp at ho h) (by omega) (by omega) (by omega)) ?_
                  intro r' h' n' hx
                  have hx1 := hx.choose_spec
                  generalize hx.choose = b' at hx1
                  have hx2 := hx1.choose_spec
                  generalize hx1.choose = p' at hx2
                  have hx3 := hx2.choose_spec
                  generalize hx2.choose = e' at hx3
                  have hr := hx3.1
                  have hh := hx3.2.1
                  have hb' := hx3.2.2.1
                  have hn' := hx3.2.2.2.1
                  have hnn' := hx3.2.2.2.2.1
                  have ht := hx3.2.2.2.2.2.1
                  have hff := hx3.2.2.2.2.2.2
                  clear hx1 hx2 hx3 hx
                  have cs := cur_step (q := q) (r := r) ho ht hff hcur
                  have cs1 := cs.1
                  have cs2 := cs.2.1
                  have cs3 := cs.2.2.1
                  have cs4 := cs.2.2.2.1
                  clear cs ht hff
                  rw [gd, cs4, ← cs1] at he
                  have gE : (p' ++ [e'])[p'.length]? = some e' := by simp
                  have gS : ((p' ++ [e']).map edV).set p'.length (.agg [.int .i64 e'.f, .int .i64 e'.d, .int .i64 e'.t, .int .i64 ((e'.i : Int) + 1)]) = p'.map edV ++ [edV ⟨e'.f, e'.d, e'.t, e'.i + 1⟩] := by simp [edV]
                  have gP : set (lH H c b' true (p' ++ [e'])) b' (.rows 4 (p'.map edV ++ [.agg [.int .i64 e'.f, .int .i64 e'.d, .int .i64 e'.t, .int .i64 ((e'.i + 1 : Nat) : Int)]])) = _ := lH_put (op := true) hlow hb' p' e' ⟨e'.f, e'.d, e'.t, e'.i + 1⟩
                  have gG := lH_row (op := true) (out := p' ++ [e']) hlow hb' (by simp)
                  have hlen : p'.length ≤ q + r := by rw [ho, ← cs1] at hol; simp at hol; omega
                  have h9 := ih (m - 1) (by omega) q (r + 1) b' n' (p' ++ [⟨e'.f, e'.d, e'.t, e'.i + 1⟩]) p' (some ⟨e'.f, e'.d, e'.t, e'.i + 1⟩) (by omega) (by omega) (by omega) rfl he hb' (fun _ => hn') (by omega) (by simp; omega) (by simp; omega)
                  have hnn : n + (n' - n) = n' := by omega
                  (try simp only [hr, hh, gG, gE, edV, gS, gP, hnn, ex,reduceIte,reduceCtorEq,Nat.reduceEqDiff,Nat.reduceLT,Nat.reduceLeDiff,Nat.reduceAdd,Nat.reduceSub,Nat.reduceMul,Int.reduceAdd,Int.reduceSub,Int.reduceMul,Int.reduceNeg,Int.reduceLE,Int.reduceLT,Int.reduceEq,Int.reduceToNat]) <;> repeat ((with_reducible refine Req.intro ?_ ?_); (first | omega | (simp <;> omega)); try simp only [hr, hh, gG, gE, edV, gS, gP, hnn, ex,reduceIte,reduceCtorEq,Nat.reduceEqDiff,Nat.reduceLT,Nat.reduceLeDiff,Nat.reduceAdd,Nat.reduceSub,Nat.reduceMul,Int.reduceAdd,Int.reduceSub,Int.reduceMul,Int.reduceNeg,Int.reduceLE,Int.reduceLT,Int.reduceEq,Int.reduceToNat])
                  exact h9
              · intro gd c1
                refine CallH.any (at_spec H c b n cur.isSome out i q r hlow hz (by omega) hb hn hn2 (fun h e => by rw [e] at ho; cases cur <;> simp at ho h) (by omega) (by omega) (by omega)) ?_
                intro r' h' n' hx
                have hx1 := hx.choose_spec
                generalize hx.choose = b' at hx1
                have hx2 := hx1.choose_spec
                generalize hx1.choose = p' at hx2
                have hx3 := hx2.choose_spec
                generalize hx2.choose = e' at hx3
                have hr := hx3.1
                have hh := hx3.2.1
                have hb' := hx3.2.2.1
                have hn' := hx3.2.2.2.1
                have hnn' := hx3.2.2.2.2.1
                have ht := hx3.2.2.2.2.2.1
                have hff := hx3.2.2.2.2.2.2
                clear hx1 hx2 hx3 hx
                have cs := cur_step (q := q) (r := r) ho ht hff hcur
                have cs1 := cs.1
                have cs2 := cs.2.1
                have cs3 := cs.2.2.1
                have cs4 := cs.2.2.2.2
                clear cs ht hff
                rw [gd, cs4, ← cs1] at he
                have gE : (p' ++ [e'])[p'.length]? = some e' := by simp
                have gS : ((p' ++ [e']).map edV).set p'.length (.agg [.int .i64 e'.f, .int .i64 ((e'.d : Int) + 1), .int .i64 e'.t, .int .i64 e'.i]) = p'.map edV ++ [edV ⟨e'.f, e'.d + 1, e'.t, e'.i⟩] := by simp [edV]
                have gP : set (lH H c b' true (p' ++ [e'])) b' (.rows 4 (p'.map edV ++ [.agg [.int .i64 e'.f, .int .i64 ((e'.d + 1 : Nat) : Int), .int .i64 e'.t, .int .i64 e'.i]])) = _ := lH_put (op := true) hlow hb' p' e' ⟨e'.f, e'.d + 1, e'.t, e'.i⟩
                have gG := lH_row (op := true) (out := p' ++ [e']) hlow hb' (by simp)
                have hlen : p'.length ≤ q + r := by rw [ho, ← cs1] at hol; simp at hol; omega
                have h9 := ih (m - 1) (by omega) (q + 1) r b' n' (p' ++ [⟨e'.f, e'.d + 1, e'.t, e'.i⟩]) p' (some ⟨e'.f, e'.d + 1, e'.t, e'.i⟩) (by omega) (by omega) (by omega) rfl he hb' (fun _ => hn') (by omega) (by simp; omega) (by simp; omega)
                have hnn : n + (n' - n) = n' := by omega
                (try simp only [hr, hh, gG, gE, edV, gS, gP, hnn, ex,reduceIte,reduceCtorEq,Nat.reduceEqDiff,Nat.reduceLT,Nat.reduceLeDiff,Nat.reduceAdd,Nat.reduceSub,Nat.reduceMul,Int.reduceAdd,Int.reduceSub,Int.reduceMul,Int.reduceNeg,Int.reduceLE,Int.reduceLT,Int.reduceEq,Int.reduceToNat]) <;> repeat ((with_reducible refine Req.intro ?_ ?_); (first | omega | (simp <;> omega)); try simp only [hr, hh, gG, gE, edV, gS, gP, hnn, ex,reduceIte,reduceCtorEq,Nat.reduceEqDiff,Nat.reduceLT,Nat.reduceLeDiff,Nat.reduceAdd,Nat.reduceSub,Nat.reduceMul,Int.reduceAdd,Int.reduceSub,Int.reduceMul,Int.reduceNeg,Int.reduceLE,Int.reduceLT,Int.reduceEq,Int.reduceToNat])
                exact h9
        have h9 := key2 (a'.length + b'.length) 0 0 (c + 2) (c + 2) [] [] none (by omega) (by omega) (by omega) rfl (by simp) (by omega) (by simp) (by omega) (by simp) (by simp)
        simp only [lH, if_true] at h9
        exact h9
  exact key p 0 (Nat.zero_add _)
end Go.Proofs.Ytnodepfoahmcmaa.E.Hs

/- graftageref08.table: walked. Conditions: none. -/
namespace Go.Proofs.Ytnodepfoahmcmaa.E.Hs
set_option linter.unusedVariables false
set_option linter.unusedSimpArgs false
set_option maxHeartbeats 20000000
set_option maxRecDepth 100000

/-- A table of rows three numbers apart. -/
def Tb3 (h : Heap) (n w : Nat) (f : Nat → Nat → Nat) : Prop := ∀ i, i < n → get h (3 * i) = some (.rows 1 (rowV .i64 w f i))
theorem Tb3.set {h : Heap} {n w i j v : Nat} {f : Nat → Nat → Nat} (ht : Tb3 h n w f) : Tb3 (set h (3 * i) (.rows 1 ((rowV .i64 w f i).set j (.int .i64 (v : Nat))))) n w (updF f i j v) := by
  intro q hq
  rw [get_set1]
  by_cases e : q = i
  · subst e; rw [if_pos rfl, rowV_set]
  · rw [if_neg (by omega), rowV_other e, ht q hq]

end Go.Proofs.Ytnodepfoahmcmaa.E.Hs

/- graftageref08.add: walked. Conditions: none. -/
namespace Go.Proofs.Ytnodepfoahmcmaa.E.Hs
set_option linter.unusedVariables false
set_option linter.unusedSimpArgs false
set_option maxHeartbeats 20000000
set_option maxRecDepth 100000

end Go.Proofs.Ytnodepfoahmcmaa.E.Hs

/- graftageref08.Least: walked. Conditions: none. -/
namespace Go.Proofs.Ytnodepfoahmcmaa.E.Hs
set_option linter.unusedVariables false
set_option linter.unusedSimpArgs false
set_option maxHeartbeats 20000000
set_option maxRecDepth 100000

end Go.Proofs.Ytnodepfoahmcmaa.E.Hs

/- Lines of a text: lines.Split and graftageref05.Split. Conditions: none. -/
namespace Go.Proofs.Ytnodepfoahmcmaa.E.Hs
set_option linter.unusedVariables false
set_option linter.unusedSimpArgs false
set_option maxHeartbeats 20000000
set_option maxRecDepth 100000

abbrev Sx := List UInt8
end Go.Proofs.Ytnodepfoahmcmaa.E.Hs

/- slices.Equal over strings: whether two lists are equal. Conditions: none. -/
namespace Go.Proofs.Ytnodepfoahmcmaa.E.Hs
set_option linter.unusedVariables false
set_option linter.unusedSimpArgs false
set_option maxHeartbeats 20000000

theorem equal_spec (o o' : Bool) (a b : List S) (ha : a.length ≤ 17592186044416) (hb : b.length ≤ 17592186044416) :
    Run tab 49 0 [.sl o 1 (a.map .str), .sl o' 1 (b.map .str)] [] 0 (fun r _ _ => r = .bool (decide (a = b))) := by
  refine enter (F := f49) rfl rfl ?_
  simp only [f49, ex,reduceIte,reduceCtorEq,Nat.reduceEqDiff,Nat.reduceLT,Nat.reduceLeDiff,Nat.reduceAdd,Nat.reduceSub,Nat.reduceMul,Int.reduceAdd,Int.reduceSub,Int.reduceMul,Int.reduceNeg,Int.reduceLE,Int.reduceLT,Int.reduceEq,Int.reduceToNat]
  rcases Classical.em (a.length = b.length) with c | c
  · have h0 : decide ((a.length : Int) = (b.length : Int)) = true := by simp; omega
    (try simp only [h0, ex,reduceIte,reduceCtorEq,Nat.reduceEqDiff,Nat.reduceLT,Nat.reduceLeDiff,Nat.reduceAdd,Nat.reduceSub,Nat.reduceMul,Int.reduceAdd,Int.reduceSub,Int.reduceMul,Int.reduceNeg,Int.reduceLE,Int.reduceLT,Int.reduceEq,Int.reduceToNat]) <;> repeat ((with_reducible refine Req.intro ?_ ?_); (first | omega | (simp <;> omega)); try simp only [h0, ex,reduceIte,reduceCtorEq,Nat.reduceEqDiff,Nat.reduceLT,Nat.reduceLeDiff,Nat.reduceAdd,Nat.reduceSub,Nat.reduceMul,Int.reduceAdd,Int.reduceSub,Int.reduceMul,Int.reduceNeg,Int.reduceLE,Int.reduceLT,Int.reduceEq,Int.reduceToNat])
    refine loopI fun L hL => ?_
    (try simp only [ex,reduceIte,reduceCtorEq,Nat.reduceEqDiff,Nat.reduceLT,Nat.reduceLeDiff,Nat.reduceAdd,Nat.reduceSub,Nat.reduceMul,Int.reduceAdd,Int.reduceSub,Int.reduceMul,Int.reduceNeg,Int.reduceLE,Int.reduceLT,Int.reduceEq,Int.reduceToNat]) <;> repeat ((with_reducible refine Req.intro ?_ ?_); (first | omega | (simp <;> omega)); try simp only [ex,reduceIte,reduceCtorEq,Nat.reduceEqDiff,Nat.reduceLT,Nat.reduceLeDiff,Nat.reduceAdd,Nat.reduceSub,Nat.reduceMul,Int.reduceAdd,Int.reduceSub,Int.reduceMul,Int.reduceNeg,Int.reduceLE,Int.reduceLT,Int.reduceEq,Int.reduceToNat])
    have key : ∀ m i : Nat, i + m = a.length → a.take i = b.take i → L (L49_1 (.sl o 1 (a.map .str)) (.sl o' 1 (b.map .str)) (.int .i64 a.length) (.int .i64 i) [] 0) := by
      intro m
      induction m with
      | zero =>
        intro i hi he
        apply hL
        simp only [L49_1, l49_1, ex,reduceIte,reduceCtorEq,Nat.reduceEqDiff,Nat.reduceLT,Nat.reduceLeDiff,Nat.reduceAdd,Nat.reduceSub,Nat.reduceMul,Int.reduceAdd,Int.reduceSub,Int.reduceMul,Int.reduceNeg,Int.reduceLE,Int.reduceLT,Int.reduceEq,Int.reduceToNat]
        have h1 : decide ((i : Int) < (a.length : Int)) = false := by simp; omega
        have hab : decide (a = b) = true := by
          rw [List.take_of_length_le (by omega), List.take_of_length_le (by omega)] at he
          simpa using he
        rw [hab]
        (try simp only [h1, ex,reduceIte,reduceCtorEq,Nat.reduceEqDiff,Nat.reduceLT,Nat.reduceLeDiff,Nat.reduceAdd,Nat.reduceSub,Nat.reduceMul,Int.reduceAdd,Int.reduceSub,Int.reduceMul,Int.reduceNeg,Int.reduceLE,Int.reduceLT,Int.reduceEq,Int.reduceToNat]) <;> repeat ((with_reducible refine Req.intro ?_ ?_); (first | omega | (simp <;> omega)); try simp only [h1, ex,reduceIte,reduceCtorEq,Nat.reduceEqDiff,Nat.reduceLT,Nat.reduceLeDiff,Nat.reduceAdd,Nat.reduceSub,Nat.reduceMul,Int.reduceAdd,Int.reduceSub,Int.reduceMul,Int.reduceNeg,Int.reduceLE,Int.reduceLT,Int.reduceEq,Int.reduceToNat])
      | succ m ih =>
        intro i hi he
        apply hL
        simp only [L49_1, l49_1, ex,reduceIte,reduceCtorEq,Nat.reduceEqDiff,Nat.reduceLT,Nat.reduceLeDiff,Nat.reduceAdd,Nat.reduceSub,Nat.reduceMul,Int.reduceAdd,Int.reduceSub,Int.reduceMul,Int.reduceNeg,Int.reduceLE,Int.reduceLT,Int.reduceEq,Int.reduceToNat]
        have h1 : decide ((i : Int) < (a.length : Int)) = true := by simp; omega
        have g1 : a[i]? = some (a[i]'(by omega)) := List.getElem?_eq_getElem _
        have g2 : b[i]? = some (b[i]'(by omega)) := List.getElem?_eq_getElem _
        generalize hx : a[i]'(by omega) = x at g1
        generalize hy : b[i]'(by omega) = y at g2
        rcases Classical.em (x = y) with e | e
        · have h2 : decide (x = y) = true := by simpa using e
          have h9 := ih (i + 1) (by omega) (by rw [List.take_add_one, List.take_add_one, g1, g2, he, e])
          (try simp only [h1, g1, g2, h2, ex,reduceIte,reduceCtorEq,Nat.reduceEqDiff,Nat.reduceLT,Nat.reduceLeDiff,Nat.reduceAdd,Nat.reduceSub,Nat.reduceMul,Int.reduceAdd,Int.reduceSub,Int.reduceMul,Int.reduceNeg,Int.reduceLE,Int.reduceLT,Int.reduceEq,Int.reduceToNat]) <;> repeat ((with_reducible refine Req.intro ?_ ?_); (first | omega | (simp <;> omega)); try simp only [h1, g1, g2, h2, ex,reduceIte,reduceCtorEq,Nat.reduceEqDiff,Nat.reduceLT,Nat.reduceLeDiff,Nat.reduceAdd,Nat.reduceSub,Nat.reduceMul,Int.reduceAdd,Int.reduceSub,Int.reduceMul,Int.reduceNeg,Int.reduceLE,Int.reduceLT,Int.reduceEq,Int.reduceToNat])
          exact h9
        · have h2 : decide (x = y) = false := by simpa using e
          have hab : decide (a = b) = false := by
            have : ¬ a = b := fun q => by
              rw [q, g2] at g1
              injection g1 with g1
              exact e g1.symm
            simpa using this
          rw [hab]
          (try simp only [h1, g1, g2, h2, ex,reduceIte,reduceCtorEq,Nat.reduceEqDiff,Nat.reduceLT,Nat.reduceLeDiff,Nat.reduceAdd,Nat.reduceSub,Nat.reduceMul,Int.reduceAdd,Int.reduceSub,Int.reduceMul,Int.reduceNeg,Int.reduceLE,Int.reduceLT,Int.reduceEq,Int.reduceToNat]) <;> repeat ((with_reducible refine Req.intro ?_ ?_); (first | omega | (simp <;> omega)); try simp only [h1, g1, g2, h2, ex,reduceIte,reduceCtorEq,Nat.reduceEqDiff,Nat.reduceLT,Nat.reduceLeDiff,Nat.reduceAdd,Nat.reduceSub,Nat.reduceMul,Int.reduceAdd,Int.reduceSub,Int.reduceMul,Int.reduceNeg,Int.reduceLE,Int.reduceLT,Int.reduceEq,Int.reduceToNat])
    exact key a.length 0 (Nat.zero_add _) (by simp)
  · have h0 : decide ((a.length : Int) = (b.length : Int)) = false := by simp; omega
    have hab : decide (a = b) = false := by
      have : ¬ a = b := fun q => c (by rw [q])
      simpa using this
    rw [hab]
    (try simp only [h0, ex,reduceIte,reduceCtorEq,Nat.reduceEqDiff,Nat.reduceLT,Nat.reduceLeDiff,Nat.reduceAdd,Nat.reduceSub,Nat.reduceMul,Int.reduceAdd,Int.reduceSub,Int.reduceMul,Int.reduceNeg,Int.reduceLE,Int.reduceLT,Int.reduceEq,Int.reduceToNat]) <;> repeat ((with_reducible refine Req.intro ?_ ?_); (first | omega | (simp <;> omega)); try simp only [h0, ex,reduceIte,reduceCtorEq,Nat.reduceEqDiff,Nat.reduceLT,Nat.reduceLeDiff,Nat.reduceAdd,Nat.reduceSub,Nat.reduceMul,Int.reduceAdd,Int.reduceSub,Int.reduceMul,Int.reduceNeg,Int.reduceLE,Int.reduceLT,Int.reduceEq,Int.reduceToNat])
end Go.Proofs.Ytnodepfoahmcmaa.E.Hs

/- Chapter 12: regions; Clean and Lines of both. Conditions: none. -/
namespace Go.Proofs.Ytnodepfoahmcmaa.E.Hs
set_option linter.unusedVariables false
set_option linter.unusedSimpArgs false
set_option maxHeartbeats 20000000
set_option maxRecDepth 100000

/-- A region. -/
structure Rg where
  k : Int
  l : List Sx
  o : List Sx
  b : List Sx
  t : List Sx
def rgV (r : Rg) : V := .agg [.int .i64 r.k, .sl false 1 (r.l.map .str), .sl false 1 (r.o.map .str), .sl false 1 (r.b.map .str), .sl false 1 (r.t.map .str)]
/-- Regions that are not too long. -/
def OkR (rs : List Rg) : Prop := rs.length ≤ 10000 ∧ ∀ r ∈ rs, r.l.length ≤ 10000 ∧ r.o.length ≤ 10000 ∧ r.b.length ≤ 10000 ∧ r.t.length ≤ 10000
def isCl (rs : List Rg) : Bool := !rs.any fun r => decide (r.k = 2)
theorem cfn_spec (r : Rg) (h : Heap) (n : Nat) : Run tab 34 0 [rgV r] h n (fun v h' n' => v = .bool (decide (r.k = 2)) ∧ h' = h ∧ n' = n + 1) := by
  refine enter (F := f34) rfl rfl ?_
  simp only [f34, rgV, ex,reduceIte,reduceCtorEq,Nat.reduceEqDiff,Nat.reduceLT,Nat.reduceLeDiff,Nat.reduceAdd,Nat.reduceSub,Nat.reduceMul,Int.reduceAdd,Int.reduceSub,Int.reduceMul,Int.reduceNeg,Int.reduceLE,Int.reduceLT,Int.reduceEq,Int.reduceToNat]
theorem idxR_spec (o : Bool) (rs : List Rg) (h : Heap) (n : Nat) (hl : rs.length ≤ 10000) :
    Run tab 53 0 [.sl o 5 (rs.map rgV), .fn 34 []] h n (fun v h' n' => (∃ i : Int, v = .int .i64 i ∧ decide (i ≥ 0) = rs.any fun r => decide (r.k = 2)) ∧ h' = h ∧ n ≤ n') := by
  refine enter (F := f53) rfl rfl ?_
  simp only [f53, ex,reduceIte,reduceCtorEq,Nat.reduceEqDiff,Nat.reduceLT,Nat.reduceLeDiff,Nat.reduceAdd,Nat.reduceSub,Nat.reduceMul,Int.reduceAdd,Int.reduceSub,Int.reduceMul,Int.reduceNeg,Int.reduceLE,Int.reduceLT,Int.reduceEq,Int.reduceToNat]
  (try simp only [ex,reduceIte,reduceCtorEq,Nat.reduceEqDiff,Nat.reduceLT,Nat.reduceLeDiff,Nat.reduceAdd,Nat.reduceSub,Nat.reduceMul,Int.reduceAdd,Int.reduceSub,Int.reduceMul,Int.reduceNeg,Int.reduceLE,Int.reduceLT,Int.reduceEq,Int.reduceToNat]) <;> repeat ((with_reducible refine Req.intro ?_ ?_); (first | omega | (simp <;> omega)); try simp only [ex,reduceIte,reduceCtorEq,Nat.reduceEqDiff,Nat.reduceLT,Nat.reduceLeDiff,Nat.reduceAdd,Nat.reduceSub,Nat.reduceMul,Int.reduceAdd,Int.reduceSub,Int.reduceMul,Int.reduceNeg,Int.reduceLE,Int.reduceLT,Int.reduceEq,Int.reduceToNat])
  refine loopI fun L hL => ?_
  (try simp only [ex,reduceIte,reduceCtorEq,Nat.reduceEqDiff,Nat.reduceLT,Nat.reduceLeDiff,Nat.reduceAdd,Nat.reduceSub,Nat.reduceMul,Int.reduceAdd,Int.reduceSub,Int.reduceMul,Int.reduceNeg,Int.reduceLE,Int.reduceLT,Int.reduceEq,Int.reduceToNat]) <;> repeat ((with_reducible refine Req.intro ?_ ?_); (first | omega | (simp <;> omega)); try simp only [ex,reduceIte,reduceCtorEq,Nat.reduceEqDiff,Nat.reduceLT,Nat.reduceLeDiff,Nat.reduceAdd,Nat.reduceSub,Nat.reduceMul,Int.reduceAdd,Int.reduceSub,Int.reduceMul,Int.reduceNeg,Int.reduceLE,Int.reduceLT,Int.reduceEq,Int.reduceToNat])
  have key : ∀ (m i N : Nat), i + m = rs.length → n ≤ N → (rs.take i).any (fun r => decide (r.k = 2)) = false → L (L53_1 (.sl o 5 (rs.map rgV)) (.fn 34 []) (.int .i64 rs.length) (.int .i64 i) h N) := by
    intro m
    induction m with
    | zero =>
      intro i N hi hN ha
      have k1 : decide ((i : Int) < (rs.length : Int)) = false := by simp; omega
      rw [List.take_of_length_le (by omega)] at ha
      apply hL
      simp only [L53_1, l53_1, ex,reduceIte,reduceCtorEq,Nat.reduceEqDiff,Nat.reduceLT,Nat.reduceLeDiff,Nat.reduceAdd,Nat.reduceSub,Nat.reduceMul,Int.reduceAdd,Int.reduceSub,Int.reduceMul,Int.reduceNeg,Int.reduceLE,Int.reduceLT,Int.reduceEq,Int.reduceToNat]
      (try simp only [k1, ex,reduceIte,reduceCtorEq,Nat.reduceEqDiff,Nat.reduceLT,Nat.reduceLeDiff,Nat.reduceAdd,Nat.reduceSub,Nat.reduceMul,Int.reduceAdd,Int.reduceSub,Int.reduceMul,Int.reduceNeg,Int.reduceLE,Int.reduceLT,Int.reduceEq,Int.reduceToNat]) <;> repeat ((with_reducible refine Req.intro ?_ ?_); (first | omega | (simp <;> omega)); try simp only [k1, ex,reduceIte,reduceCtorEq,Nat.reduceEqDiff,Nat.reduceLT,Nat.reduceLeDiff,Nat.reduceAdd,Nat.reduceSub,Nat.reduceMul,Int.reduceAdd,Int.reduceSub,Int.reduceMul,Int.reduceNeg,Int.reduceLE,Int.reduceLT,Int.reduceEq,Int.reduceToNat])
      exact ⟨⟨_, rfl, by rw [ha]; decide⟩, hN⟩
    | succ m ih =>
      intro i N hi hN ha
      have k1 : decide ((i : Int) < (rs.length : Int)) = true := by simp; omega
      have g1 : rs[i]? = some (rs[i]'(by omega)) := List.getElem?_eq_getElem _
      have ht : rs.take (i + 1) = rs.take i ++ [rs[i]'(by omega)] := by rw [List.take_add_one, g1]; rfl
      have hm : rs[i]'(by omega) ∈ rs := List.getElem_mem _
      generalize rs[i]'(by omega) = r at *
      have hc : (rgV r).cells = [.int .i64 r.k, .sl false 1 (r.l.map .str), .sl false 1 (r.o.map .str), .sl false 1 (r.b.map .str), .sl false 1 (r.t.map .str)] := rfl
      apply hL
      simp only [L53_1, l53_1, ex,reduceIte,reduceCtorEq,Nat.reduceEqDiff,Nat.reduceLT,Nat.reduceLeDiff,Nat.reduceAdd,Nat.reduceSub,Nat.reduceMul,Int.reduceAdd,Int.reduceSub,Int.reduceMul,Int.reduceNeg,Int.reduceLE,Int.reduceLT,Int.reduceEq,Int.reduceToNat]
      (try simp only [k1, g1, hc, ex,reduceIte,reduceCtorEq,Nat.reduceEqDiff,Nat.reduceLT,Nat.reduceLeDiff,Nat.reduceAdd,Nat.reduceSub,Nat.reduceMul,Int.reduceAdd,Int.reduceSub,Int.reduceMul,Int.reduceNeg,Int.reduceLE,Int.reduceLT,Int.reduceEq,Int.reduceToNat]) <;> repeat ((with_reducible refine Req.intro ?_ ?_); (first | omega | (simp <;> omega)); try simp only [k1, g1, hc, ex,reduceIte,reduceCtorEq,Nat.reduceEqDiff,Nat.reduceLT,Nat.reduceLeDiff,Nat.reduceAdd,Nat.reduceSub,Nat.reduceMul,Int.reduceAdd,Int.reduceSub,Int.reduceMul,Int.reduceNeg,Int.reduceLE,Int.reduceLT,Int.reduceEq,Int.reduceToNat])
      refine CallH.eq (cfn_spec r h N) ?_
      have hnn : N + (N + 1 - N) = N + 1 := by omega
      refine Classical.byCases (p := r.k = 2) (fun e => ?_) (fun e => ?_)
      · have e1 : decide (r.k = 2) = true := decide_eq_true e
        have ha2 : rs.any (fun r => decide (r.k = 2)) = true := List.any_eq_true.2 ⟨r, hm, e1⟩
        (try simp only [e1, hnn, ex,reduceIte,reduceCtorEq,Nat.reduceEqDiff,Nat.reduceLT,Nat.reduceLeDiff,Nat.reduceAdd,Nat.reduceSub,Nat.reduceMul,Int.reduceAdd,Int.reduceSub,Int.reduceMul,Int.reduceNeg,Int.reduceLE,Int.reduceLT,Int.reduceEq,Int.reduceToNat]) <;> repeat ((with_reducible refine Req.intro ?_ ?_); (first | omega | (simp <;> omega)); try simp only [e1, hnn, ex,reduceIte,reduceCtorEq,Nat.reduceEqDiff,Nat.reduceLT,Nat.reduceLeDiff,Nat.reduceAdd,Nat.reduceSub,Nat.reduceMul,Int.reduceAdd,Int.reduceSub,Int.reduceMul,Int.reduceNeg,Int.reduceLE,Int.reduceLT,Int.reduceEq,Int.reduceToNat])
        exact ⟨⟨_, rfl, by rw [ha2]; simp⟩, by omega⟩
      · have e1 : decide (r.k = 2) = false := decide_eq_false e
        have h9 := ih (i + 1) (N + 1) (by omega) (by omega) (by rw [ht, List.any_append, ha]; simp [e])
        (try simp only [e1, hnn, ex,reduceIte,reduceCtorEq,Nat.reduceEqDiff,Nat.reduceLT,Nat.reduceLeDiff,Nat.reduceAdd,Nat.reduceSub,Nat.reduceMul,Int.reduceAdd,Int.reduceSub,Int.reduceMul,Int.reduceNeg,Int.reduceLE,Int.reduceLT,Int.reduceEq,Int.reduceToNat]) <;> repeat ((with_reducible refine Req.intro ?_ ?_); (first | omega | (simp <;> omega)); try simp only [e1, hnn, ex,reduceIte,reduceCtorEq,Nat.reduceEqDiff,Nat.reduceLT,Nat.reduceLeDiff,Nat.reduceAdd,Nat.reduceSub,Nat.reduceMul,Int.reduceAdd,Int.reduceSub,Int.reduceMul,Int.reduceNeg,Int.reduceLE,Int.reduceLT,Int.reduceEq,Int.reduceToNat])
        exact h9
  exact key rs.length 0 n (Nat.zero_add _) (Nat.le_refl _) rfl
theorem cfR_spec (o : Bool) (rs : List Rg) (h : Heap) (n : Nat) (hl : rs.length ≤ 10000) :
    Run tab 33 0 [.sl o 5 (rs.map rgV), .fn 34 []] h n (fun v h' n' => v = .bool (rs.any fun r => decide (r.k = 2)) ∧ h' = h ∧ n ≤ n') := by
  refine enter (F := f33) rfl rfl ?_
  simp only [f33, ex,reduceIte,reduceCtorEq,Nat.reduceEqDiff,Nat.reduceLT,Nat.reduceLeDiff,Nat.reduceAdd,Nat.reduceSub,Nat.reduceMul,Int.reduceAdd,Int.reduceSub,Int.reduceMul,Int.reduceNeg,Int.reduceLE,Int.reduceLT,Int.reduceEq,Int.reduceToNat]
  (try simp only [ex,reduceIte,reduceCtorEq,Nat.reduceEqDiff,Nat.reduceLT,Nat.reduceLeDiff,Nat.reduceAdd,Nat.reduceSub,Nat.reduceMul,Int.reduceAdd,Int.reduceSub,Int.reduceMul,Int.reduceNeg,Int.reduceLE,Int.reduceLT,Int.reduceEq,Int.reduceToNat]) <;> repeat ((with_reducible refine Req.intro ?_ ?_); (first | omega | (simp <;> omega)); try simp only [ex,reduceIte,reduceCtorEq,Nat.reduceEqDiff,Nat.reduceLT,Nat.reduceLeDiff,Nat.reduceAdd,Nat.reduceSub,Nat.reduceMul,Int.reduceAdd,Int.reduceSub,Int.reduceMul,Int.reduceNeg,Int.reduceLE,Int.reduceLT,Int.reduceEq,Int.reduceToNat])
  refine CallH.any (idxR_spec _ rs h n hl) ?_
  intro v h' m hx
  have y := hx.1.choose_spec
  generalize hx.1.choose = i at y
  have y1 := y.1
  have y2 := y.2
  have y3 := hx.2.1
  have y4 := hx.2.2
  clear hx y
  (try simp only [y1, y2, y3, ex,reduceIte,reduceCtorEq,Nat.reduceEqDiff,Nat.reduceLT,Nat.reduceLeDiff,Nat.reduceAdd,Nat.reduceSub,Nat.reduceMul,Int.reduceAdd,Int.reduceSub,Int.reduceMul,Int.reduceNeg,Int.reduceLE,Int.reduceLT,Int.reduceEq,Int.reduceToNat]) <;> repeat ((with_reducible refine Req.intro ?_ ?_); (first | omega | (simp <;> omega)); try simp only [y1, y2, y3, ex,reduceIte,reduceCtorEq,Nat.reduceEqDiff,Nat.reduceLT,Nat.reduceLeDiff,Nat.reduceAdd,Nat.reduceSub,Nat.reduceMul,Int.reduceAdd,Int.reduceSub,Int.reduceMul,Int.reduceNeg,Int.reduceLE,Int.reduceLT,Int.reduceEq,Int.reduceToNat])
  omega
theorem clean1_spec (o : Bool) (rs : List Rg) (hl : rs.length ≤ 10000) : Run tab 13 0 [.sl o 5 (rs.map rgV)] [] 0 (fun v _ _ => v = .bool (isCl rs)) := by
  refine enter (F := f13) rfl rfl ?_
  simp only [f13, ex,reduceIte,reduceCtorEq,Nat.reduceEqDiff,Nat.reduceLT,Nat.reduceLeDiff,Nat.reduceAdd,Nat.reduceSub,Nat.reduceMul,Int.reduceAdd,Int.reduceSub,Int.reduceMul,Int.reduceNeg,Int.reduceLE,Int.reduceLT,Int.reduceEq,Int.reduceToNat]
  (try simp only [ex,reduceIte,reduceCtorEq,Nat.reduceEqDiff,Nat.reduceLT,Nat.reduceLeDiff,Nat.reduceAdd,Nat.reduceSub,Nat.reduceMul,Int.reduceAdd,Int.reduceSub,Int.reduceMul,Int.reduceNeg,Int.reduceLE,Int.reduceLT,Int.reduceEq,Int.reduceToNat]) <;> repeat ((with_reducible refine Req.intro ?_ ?_); (first | omega | (simp <;> omega)); try simp only [ex,reduceIte,reduceCtorEq,Nat.reduceEqDiff,Nat.reduceLT,Nat.reduceLeDiff,Nat.reduceAdd,Nat.reduceSub,Nat.reduceMul,Int.reduceAdd,Int.reduceSub,Int.reduceMul,Int.reduceNeg,Int.reduceLE,Int.reduceLT,Int.reduceEq,Int.reduceToNat])
  refine CallH.any (cfR_spec _ rs [] 0 hl) ?_
  intro v h' m hx
  have y1 := hx.1
  have y3 := hx.2.1
  clear hx
  (try simp only [y1, y3, ex,reduceIte,reduceCtorEq,Nat.reduceEqDiff,Nat.reduceLT,Nat.reduceLeDiff,Nat.reduceAdd,Nat.reduceSub,Nat.reduceMul,Int.reduceAdd,Int.reduceSub,Int.reduceMul,Int.reduceNeg,Int.reduceLE,Int.reduceLT,Int.reduceEq,Int.reduceToNat]) <;> repeat ((with_reducible refine Req.intro ?_ ?_); (first | omega | (simp <;> omega)); try simp only [y1, y3, ex,reduceIte,reduceCtorEq,Nat.reduceEqDiff,Nat.reduceLT,Nat.reduceLeDiff,Nat.reduceAdd,Nat.reduceSub,Nat.reduceMul,Int.reduceAdd,Int.reduceSub,Int.reduceMul,Int.reduceNeg,Int.reduceLE,Int.reduceLT,Int.reduceEq,Int.reduceToNat])
  rfl
end Go.Proofs.Ytnodepfoahmcmaa.E.Hs

/- Chapter 12: Lines of both. Conditions: none. -/
namespace Go.Proofs.Ytnodepfoahmcmaa.E.Hs
set_option linter.unusedVariables false
set_option linter.unusedSimpArgs false
set_option maxHeartbeats 20000000
set_option maxRecDepth 100000

/-- A region's lines, ours and theirs where they are wanted. -/
def rgL (x y : Bool) (r : Rg) : List Sx := if r.k = 2 then (if x then r.o else []) ++ (if y then r.t else []) else r.l
def lnR (x y : Bool) (rs : List Rg) : List Sx := rs.flatMap (rgL x y)
def linesR (s : Int) (rs : List Rg) : List Sx := lnR (decide (s = 1) || decide (s = 3)) (decide (s = 2) || decide (s = 3)) rs
theorem lnR_snoc (x y : Bool) (rs : List Rg) (r : Rg) : lnR x y (rs ++ [r]) = lnR x y rs ++ rgL x y r := by simp [lnR]
theorem lnR_len (x y : Bool) (rs : List Rg) (h : OkR rs) (i : Nat) : (lnR x y (rs.take i)).length ≤ 20000 * i := by
  induction i with
  | zero => simp [lnR]
  | succ i ih =>
    rw [List.take_add_one]
    cases hg : rs[i]? with
    | none => simp; omega
    | some r =>
      have hm : r ∈ rs := List.mem_of_getElem? hg
      have := h.2 r hm
      simp only [Option.toList_some, lnR_snoc, List.length_append]
      have h2 : (rgL x y r).length ≤ 20000 := by
        unfold rgL
        split
        · rw [List.length_append]
          split <;> split <;> (try simp only [List.length_nil]) <;> omega
        · omega
      omega
theorem lines1_spec (o : Bool) (rs : List Rg) (s : Int) (hok : OkR rs) : Run tab 17 0 [.sl o 5 (rs.map rgV), .int .i64 s] [] 0 (fun v _ _ => v = .sl true 1 ((linesR s rs).map .str)) := by
  unfold linesR
  generalize d1 : decide (s = 1) = b1
  generalize d2 : decide (s = 2) = b2
  generalize d3 : decide (s = 3) = b3
  have hl := hok.1
  refine enter (F := f17) rfl rfl ?_
  simp only [f17, ex,reduceIte,reduceCtorEq,Nat.reduceEqDiff,Nat.reduceLT,Nat.reduceLeDiff,Nat.reduceAdd,Nat.reduceSub,Nat.reduceMul,Int.reduceAdd,Int.reduceSub,Int.reduceMul,Int.reduceNeg,Int.reduceLE,Int.reduceLT,Int.reduceEq,Int.reduceToNat]
  (try simp only [ex,reduceIte,reduceCtorEq,Nat.reduceEqDiff,Nat.reduceLT,Nat.reduceLeDiff,Nat.reduceAdd,Nat.reduceSub,Nat.reduceMul,Int.reduceAdd,Int.reduceSub,Int.reduceMul,Int.reduceNeg,Int.reduceLE,Int.reduceLT,Int.reduceEq,Int.reduceToNat]) <;> repeat ((with_reducible refine Req.intro ?_ ?_); (first | omega | (simp <;> omega)); try simp only [ex,reduceIte,reduceCtorEq,Nat.reduceEqDiff,Nat.reduceLT,Nat.reduceLeDiff,Nat.reduceAdd,Nat.reduceSub,Nat.reduceMul,Int.reduceAdd,Int.reduceSub,Int.reduceMul,Int.reduceNeg,Int.reduceLE,Int.reduceLT,Int.reduceEq,Int.reduceToNat])
  refine loopI fun L hL => ?_
  (try simp only [ex,reduceIte,reduceCtorEq,Nat.reduceEqDiff,Nat.reduceLT,Nat.reduceLeDiff,Nat.reduceAdd,Nat.reduceSub,Nat.reduceMul,Int.reduceAdd,Int.reduceSub,Int.reduceMul,Int.reduceNeg,Int.reduceLE,Int.reduceLT,Int.reduceEq,Int.reduceToNat]) <;> repeat ((with_reducible refine Req.intro ?_ ?_); (first | omega | (simp <;> omega)); try simp only [ex,reduceIte,reduceCtorEq,Nat.reduceEqDiff,Nat.reduceLT,Nat.reduceLeDiff,Nat.reduceAdd,Nat.reduceSub,Nat.reduceMul,Int.reduceAdd,Int.reduceSub,Int.reduceMul,Int.reduceNeg,Int.reduceLE,Int.reduceLT,Int.reduceEq,Int.reduceToNat])
  have key : ∀ (m i N : Nat), i + m = rs.length → L (L17_1 (.int .i64 s) (.sl true 1 ((lnR (b1 || b3) (b2 || b3) (rs.take i)).map .str)) (.sl o 5 (rs.map rgV)) (.int .i64 rs.length) (.int .i64 i) [] N) := by
    intro m
    induction m with
    | zero =>
      intro i N hi
      have k1 : decide ((i : Int) < (rs.length : Int)) = false := by simp; omega
      rw [List.take_of_length_le (by omega)]
      apply hL
      simp only [L17_1, l17_1, ex,reduceIte,reduceCtorEq,Nat.reduceEqDiff,Nat.reduceLT,Nat.reduceLeDiff,Nat.reduceAdd,Nat.reduceSub,Nat.reduceMul,Int.reduceAdd,Int.reduceSub,Int.reduceMul,Int.reduceNeg,Int.reduceLE,Int.reduceLT,Int.reduceEq,Int.reduceToNat]
      (try simp only [k1, ex,reduceIte,reduceCtorEq,Nat.reduceEqDiff,Nat.reduceLT,Nat.reduceLeDiff,Nat.reduceAdd,Nat.reduceSub,Nat.reduceMul,Int.reduceAdd,Int.reduceSub,Int.reduceMul,Int.reduceNeg,Int.reduceLE,Int.reduceLT,Int.reduceEq,Int.reduceToNat]) <;> repeat ((with_reducible refine Req.intro ?_ ?_); (first | omega | (simp <;> omega)); try simp only [k1, ex,reduceIte,reduceCtorEq,Nat.reduceEqDiff,Nat.reduceLT,Nat.reduceLeDiff,Nat.reduceAdd,Nat.reduceSub,Nat.reduceMul,Int.reduceAdd,Int.reduceSub,Int.reduceMul,Int.reduceNeg,Int.reduceLE,Int.reduceLT,Int.reduceEq,Int.reduceToNat])
    | succ m ih =>
      intro i N hi
      have k1 : decide ((i : Int) < (rs.length : Int)) = true := by simp; omega
      have g1 : rs[i]? = some (rs[i]'(by omega)) := List.getElem?_eq_getElem _
      have ht : rs.take (i + 1) = rs.take i ++ [rs[i]'(by omega)] := by rw [List.take_add_one, g1]; rfl
      have hm : rs[i]'(by omega) ∈ rs := List.getElem_mem _
      have hb := lnR_len (b1 || b3) (b2 || b3) rs hok i
      generalize rs[i]'(by omega) = r at *
      have hr := hok.2 r hm
      have hc : (rgV r).cells = [.int .i64 r.k, .sl false 1 (r.l.map .str), .sl false 1 (r.o.map .str), .sl false 1 (r.b.map .str), .sl false 1 (r.t.map .str)] := rfl
      have h9 := fun N => ih (i + 1) N (by omega)
      rw [ht, lnR_snoc] at h9
      generalize lnR (b1 || b3) (b2 || b3) (rs.take i) = acc at *
      refine Classical.byCases (p := r.k = 2) (fun e => ?_) (fun e => ?_)
      · have e1 : decide (r.k ≠ 2) = false := by simpa using e
        simp only [rgL, e, if_true] at h9
        cases b1 <;> cases b2 <;> cases b3
        all_goals
          simp only [Bool.or_self, Bool.or_true, Bool.true_or, Bool.or_false, Bool.false_or, if_true, if_false, List.nil_append, List.append_nil, List.map_append, Bool.false_eq_true, ← List.append_assoc] at h9
          apply hL
          simp only [L17_1, l17_1, ex,reduceIte,reduceCtorEq,Nat.reduceEqDiff,Nat.reduceLT,Nat.reduceLeDiff,Nat.reduceAdd,Nat.reduceSub,Nat.reduceMul,Int.reduceAdd,Int.reduceSub,Int.reduceMul,Int.reduceNeg,Int.reduceLE,Int.reduceLT,Int.reduceEq,Int.reduceToNat]
          (try simp only [k1, g1, hc, e1, d1, d2, d3, ex,reduceIte,reduceCtorEq,Nat.reduceEqDiff,Nat.reduceLT,Nat.reduceLeDiff,Nat.reduceAdd,Nat.reduceSub,Nat.reduceMul,Int.reduceAdd,Int.reduceSub,Int.reduceMul,Int.reduceNeg,Int.reduceLE,Int.reduceLT,Int.reduceEq,Int.reduceToNat]) <;> repeat ((with_reducible refine Req.intro ?_ ?_); (first | omega | (simp <;> omega)); try simp only [k1, g1, hc, e1, d1, d2, d3, ex,reduceIte,reduceCtorEq,Nat.reduceEqDiff,Nat.reduceLT,Nat.reduceLeDiff,Nat.reduceAdd,Nat.reduceSub,Nat.reduceMul,Int.reduceAdd,Int.reduceSub,Int.reduceMul,Int.reduceNeg,Int.reduceLE,Int.reduceLT,Int.reduceEq,Int.reduceToNat])
          exact h9 _
      · have e1 : decide (r.k ≠ 2) = true := by simpa using e
        simp only [rgL, e, if_false, List.map_append] at h9
        apply hL
        simp only [L17_1, l17_1, ex,reduceIte,reduceCtorEq,Nat.reduceEqDiff,Nat.reduceLT,Nat.reduceLeDiff,Nat.reduceAdd,Nat.reduceSub,Nat.reduceMul,Int.reduceAdd,Int.reduceSub,Int.reduceMul,Int.reduceNeg,Int.reduceLE,Int.reduceLT,Int.reduceEq,Int.reduceToNat]
        (try simp only [k1, g1, hc, e1, ex,reduceIte,reduceCtorEq,Nat.reduceEqDiff,Nat.reduceLT,Nat.reduceLeDiff,Nat.reduceAdd,Nat.reduceSub,Nat.reduceMul,Int.reduceAdd,Int.reduceSub,Int.reduceMul,Int.reduceNeg,Int.reduceLE,Int.reduceLT,Int.reduceEq,Int.reduceToNat]) <;> repeat ((with_reducible refine Req.intro ?_ ?_); (first | omega | (simp <;> omega)); try simp only [k1, g1, hc, e1, ex,reduceIte,reduceCtorEq,Nat.reduceEqDiff,Nat.reduceLT,Nat.reduceLeDiff,Nat.reduceAdd,Nat.reduceSub,Nat.reduceMul,Int.reduceAdd,Int.reduceSub,Int.reduceMul,Int.reduceNeg,Int.reduceLE,Int.reduceLT,Int.reduceEq,Int.reduceToNat])
        exact h9 _
  exact key rs.length 0 0 (Nat.zero_add _)
end Go.Proofs.Ytnodepfoahmcmaa.E.Hs

/- Chapter 12: comparing lists and regions; few. Conditions: none. -/
namespace Go.Proofs.Ytnodepfoahmcmaa.E.Hs
set_option linter.unusedVariables false
set_option linter.unusedSimpArgs false
set_option maxHeartbeats 20000000
set_option maxRecDepth 100000

theorem same6_spec (o o' : Bool) (a b : List Sx) (ha : a.length ≤ 1000000) (hb : b.length ≤ 1000000) :
    Run tab 16 0 [.sl o 1 (a.map .str), .sl o' 1 (b.map .str)] [] 0 (fun r _ _ => r = .bool (decide (a = b))) := by
  refine enter (F := f16) rfl rfl ?_
  simp only [f16, ex,reduceIte,reduceCtorEq,Nat.reduceEqDiff,Nat.reduceLT,Nat.reduceLeDiff,Nat.reduceAdd,Nat.reduceSub,Nat.reduceMul,Int.reduceAdd,Int.reduceSub,Int.reduceMul,Int.reduceNeg,Int.reduceLE,Int.reduceLT,Int.reduceEq,Int.reduceToNat]
  rcases Classical.em (a.length = b.length) with c | c
  · have h0 : decide ((a.length : Int) = (b.length : Int)) = true := by simp; omega
    (try simp only [h0, ex,reduceIte,reduceCtorEq,Nat.reduceEqDiff,Nat.reduceLT,Nat.reduceLeDiff,Nat.reduceAdd,Nat.reduceSub,Nat.reduceMul,Int.reduceAdd,Int.reduceSub,Int.reduceMul,Int.reduceNeg,Int.reduceLE,Int.reduceLT,Int.reduceEq,Int.reduceToNat]) <;> repeat ((with_reducible refine Req.intro ?_ ?_); (first | omega | (simp <;> omega)); try simp only [h0, ex,reduceIte,reduceCtorEq,Nat.reduceEqDiff,Nat.reduceLT,Nat.reduceLeDiff,Nat.reduceAdd,Nat.reduceSub,Nat.reduceMul,Int.reduceAdd,Int.reduceSub,Int.reduceMul,Int.reduceNeg,Int.reduceLE,Int.reduceLT,Int.reduceEq,Int.reduceToNat])
    refine loopI fun L hL => ?_
    (try simp only [ex,reduceIte,reduceCtorEq,Nat.reduceEqDiff,Nat.reduceLT,Nat.reduceLeDiff,Nat.reduceAdd,Nat.reduceSub,Nat.reduceMul,Int.reduceAdd,Int.reduceSub,Int.reduceMul,Int.reduceNeg,Int.reduceLE,Int.reduceLT,Int.reduceEq,Int.reduceToNat]) <;> repeat ((with_reducible refine Req.intro ?_ ?_); (first | omega | (simp <;> omega)); try simp only [ex,reduceIte,reduceCtorEq,Nat.reduceEqDiff,Nat.reduceLT,Nat.reduceLeDiff,Nat.reduceAdd,Nat.reduceSub,Nat.reduceMul,Int.reduceAdd,Int.reduceSub,Int.reduceMul,Int.reduceNeg,Int.reduceLE,Int.reduceLT,Int.reduceEq,Int.reduceToNat])
    have key : ∀ m i : Nat, i + m = a.length → a.take i = b.take i → L (L16_1 (.sl o 1 (a.map .str)) (.sl o' 1 (b.map .str)) (.int .i64 i) [] 0) := by
      intro m
      induction m with
      | zero =>
        intro i hi he
        apply hL
        simp only [L16_1, l16_1, ex,reduceIte,reduceCtorEq,Nat.reduceEqDiff,Nat.reduceLT,Nat.reduceLeDiff,Nat.reduceAdd,Nat.reduceSub,Nat.reduceMul,Int.reduceAdd,Int.reduceSub,Int.reduceMul,Int.reduceNeg,Int.reduceLE,Int.reduceLT,Int.reduceEq,Int.reduceToNat]
        have h1 : decide ((i : Int) < (a.length : Int)) = false := by simp; omega
        have hab : decide (a = b) = true := by
          rw [List.take_of_length_le (by omega), List.take_of_length_le (by omega)] at he
          simpa using he
        rw [hab]
        (try simp only [h1, ex,reduceIte,reduceCtorEq,Nat.reduceEqDiff,Nat.reduceLT,Nat.reduceLeDiff,Nat.reduceAdd,Nat.reduceSub,Nat.reduceMul,Int.reduceAdd,Int.reduceSub,Int.reduceMul,Int.reduceNeg,Int.reduceLE,Int.reduceLT,Int.reduceEq,Int.reduceToNat]) <;> repeat ((with_reducible refine Req.intro ?_ ?_); (first | omega | (simp <;> omega)); try simp only [h1, ex,reduceIte,reduceCtorEq,Nat.reduceEqDiff,Nat.reduceLT,Nat.reduceLeDiff,Nat.reduceAdd,Nat.reduceSub,Nat.reduceMul,Int.reduceAdd,Int.reduceSub,Int.reduceMul,Int.reduceNeg,Int.reduceLE,Int.reduceLT,Int.reduceEq,Int.reduceToNat])
      | succ m ih =>
        intro i hi he
        have h1 : decide ((i : Int) < (a.length : Int)) = true := by simp; omega
        have g1 : a[i]? = some (a[i]'(by omega)) := List.getElem?_eq_getElem _
        have g2 : b[i]? = some (b[i]'(by omega)) := List.getElem?_eq_getElem _
        generalize hx : a[i]'(by omega) = x at g1
        generalize hy : b[i]'(by omega) = y at g2
        rcases Classical.em (x = y) with e | e
        · have h2 : decide (x = y) = true := by simpa using e
          have h9 := ih (i + 1) (by omega) (by rw [List.take_add_one, List.take_add_one, g1, g2, he, e])
          apply hL
          simp only [L16_1, l16_1, ex,reduceIte,reduceCtorEq,Nat.reduceEqDiff,Nat.reduceLT,Nat.reduceLeDiff,Nat.reduceAdd,Nat.reduceSub,Nat.reduceMul,Int.reduceAdd,Int.reduceSub,Int.reduceMul,Int.reduceNeg,Int.reduceLE,Int.reduceLT,Int.reduceEq,Int.reduceToNat]
          (try simp only [h1, g1, g2, h2, ex,reduceIte,reduceCtorEq,Nat.reduceEqDiff,Nat.reduceLT,Nat.reduceLeDiff,Nat.reduceAdd,Nat.reduceSub,Nat.reduceMul,Int.reduceAdd,Int.reduceSub,Int.reduceMul,Int.reduceNeg,Int.reduceLE,Int.reduceLT,Int.reduceEq,Int.reduceToNat]) <;> repeat ((with_reducible refine Req.intro ?_ ?_); (first | omega | (simp <;> omega)); try simp only [h1, g1, g2, h2, ex,reduceIte,reduceCtorEq,Nat.reduceEqDiff,Nat.reduceLT,Nat.reduceLeDiff,Nat.reduceAdd,Nat.reduceSub,Nat.reduceMul,Int.reduceAdd,Int.reduceSub,Int.reduceMul,Int.reduceNeg,Int.reduceLE,Int.reduceLT,Int.reduceEq,Int.reduceToNat])
          exact h9
        · have h2 : decide (x = y) = false := by simpa using e
          have hab : decide (a = b) = false := by
            have : ¬ a = b := fun q => by
              rw [q, g2] at g1
              injection g1 with g1
              exact e g1.symm
            simpa using this
          apply hL
          simp only [L16_1, l16_1, ex,reduceIte,reduceCtorEq,Nat.reduceEqDiff,Nat.reduceLT,Nat.reduceLeDiff,Nat.reduceAdd,Nat.reduceSub,Nat.reduceMul,Int.reduceAdd,Int.reduceSub,Int.reduceMul,Int.reduceNeg,Int.reduceLE,Int.reduceLT,Int.reduceEq,Int.reduceToNat]
          rw [hab]
          (try simp only [h1, g1, g2, h2, ex,reduceIte,reduceCtorEq,Nat.reduceEqDiff,Nat.reduceLT,Nat.reduceLeDiff,Nat.reduceAdd,Nat.reduceSub,Nat.reduceMul,Int.reduceAdd,Int.reduceSub,Int.reduceMul,Int.reduceNeg,Int.reduceLE,Int.reduceLT,Int.reduceEq,Int.reduceToNat]) <;> repeat ((with_reducible refine Req.intro ?_ ?_); (first | omega | (simp <;> omega)); try simp only [h1, g1, g2, h2, ex,reduceIte,reduceCtorEq,Nat.reduceEqDiff,Nat.reduceLT,Nat.reduceLeDiff,Nat.reduceAdd,Nat.reduceSub,Nat.reduceMul,Int.reduceAdd,Int.reduceSub,Int.reduceMul,Int.reduceNeg,Int.reduceLE,Int.reduceLT,Int.reduceEq,Int.reduceToNat])
    exact key a.length 0 (Nat.zero_add _) (by simp)
  · have h0 : decide ((a.length : Int) = (b.length : Int)) = false := by simp; omega
    have hab : decide (a = b) = false := by
      have : ¬ a = b := fun q => c (by rw [q])
      simpa using this
    rw [hab]
    (try simp only [h0, ex,reduceIte,reduceCtorEq,Nat.reduceEqDiff,Nat.reduceLT,Nat.reduceLeDiff,Nat.reduceAdd,Nat.reduceSub,Nat.reduceMul,Int.reduceAdd,Int.reduceSub,Int.reduceMul,Int.reduceNeg,Int.reduceLE,Int.reduceLT,Int.reduceEq,Int.reduceToNat]) <;> repeat ((with_reducible refine Req.intro ?_ ?_); (first | omega | (simp <;> omega)); try simp only [h0, ex,reduceIte,reduceCtorEq,Nat.reduceEqDiff,Nat.reduceLT,Nat.reduceLeDiff,Nat.reduceAdd,Nat.reduceSub,Nat.reduceMul,Int.reduceAdd,Int.reduceSub,Int.reduceMul,Int.reduceNeg,Int.reduceLE,Int.reduceLT,Int.reduceEq,Int.reduceToNat])
theorem same6_self (o o' : Bool) (a : List Sx) (ha : a.length ≤ 1000000) : Run tab 16 0 [.sl o 1 (a.map .str), .sl o' 1 (a.map .str)] [] 0 (fun r _ _ => r = .bool true) := by
  have := same6_spec o o' a a ha ha
  rw [decide_eq_true (rfl : a = a)] at this
  exact this
theorem small_len {a : List Sx} (h : small a = true) : a.length ≤ 60 ∧ ∀ s ∈ a, s.length ≤ 200 := by
  unfold small at h
  rw [Bool.and_eq_true, List.all_eq_true] at h
  exact ⟨by simpa using h.1, fun s hs => by simpa using h.2 s hs⟩
end Go.Proofs.Ytnodepfoahmcmaa.E.Hs

/- Chapter 12: Mark of both. Conditions: none. -/
namespace Go.Proofs.Ytnodepfoahmcmaa.E.Hs
set_option linter.unusedVariables false
set_option linter.unusedSimpArgs false
set_option maxHeartbeats 20000000
set_option maxRecDepth 100000

end Go.Proofs.Ytnodepfoahmcmaa.E.Hs

/- Chapter 12: marks of lines; Marked of both. Conditions: none. -/
namespace Go.Proofs.Ytnodepfoahmcmaa.E.Hs
set_option linter.unusedVariables false
set_option linter.unusedSimpArgs false
set_option maxHeartbeats 20000000
set_option maxRecDepth 100000

end Go.Proofs.Ytnodepfoahmcmaa.E.Hs

/- Chapter 12: clean lines are laid: both. Conditions: none. -/
namespace Go.Proofs.Ytnodepfoahmcmaa.E.Hs
set_option linter.unusedVariables false
set_option linter.unusedSimpArgs false
set_option maxHeartbeats 20000000
set_option maxRecDepth 100000

/-- Clean lines behind regions. -/
def addC (rs : List Rg) (l : List Sx) : List Rg :=
  if l = [] then rs else match rs.getLast? with
  | some r => if r.k = 1 then rs.take (rs.length - 1) ++ [{ r with l := r.l ++ l }] else rs ++ [⟨1, l, [], [], []⟩]
  | none => [⟨1, l, [], [], []⟩]
end Go.Proofs.Ytnodepfoahmcmaa.E.Hs

/- Chapter 12: the row's clean: walked. Conditions: none. -/
namespace Go.Proofs.Ytnodepfoahmcmaa.E.Hs
set_option linter.unusedVariables false
set_option linter.unusedSimpArgs false
set_option maxHeartbeats 20000000
set_option maxRecDepth 100000

theorem clone_spec (o : Bool) (l : List Sx) (hl : l.length ≤ 1000000) :
    Run tab 50 0 [.sl o 1 (l.map .str)] [] 0 (fun r _ _ => r = .sl true 1 (l.map .str)) := by
  rcases Classical.em (l = []) with e | e
  · subst e
    have e : tab.ext 50 [.sl o 1 []] [] 0 = some (.sl true 1 [], [], 0) := by
      have e0 : tab.ext = extF := rfl
      rw [e0]
      simp [extF, ext50]
    exact (run_ext e).weaken fun _ _ _ q => q.1
  · obtain ⟨x, t, rfl⟩ : ∃ x t, l = x :: t := by cases l with | nil => exact (e rfl).elim | cons x t => exact ⟨x, t, rfl⟩
    simp only [List.length_cons] at hl
    refine enter (F := f50) rfl rfl ?_
    simp only [f50, ex,reduceIte,reduceCtorEq,Nat.reduceEqDiff,Nat.reduceLT,Nat.reduceLeDiff,Nat.reduceAdd,Nat.reduceSub,Nat.reduceMul,Int.reduceAdd,Int.reduceSub,Int.reduceMul,Int.reduceNeg,Int.reduceLE,Int.reduceLT,Int.reduceEq,Int.reduceToNat]
    (try simp only [ex,reduceIte,reduceCtorEq,Nat.reduceEqDiff,Nat.reduceLT,Nat.reduceLeDiff,Nat.reduceAdd,Nat.reduceSub,Nat.reduceMul,Int.reduceAdd,Int.reduceSub,Int.reduceMul,Int.reduceNeg,Int.reduceLE,Int.reduceLT,Int.reduceEq,Int.reduceToNat]) <;> repeat ((with_reducible refine Req.intro ?_ ?_); (first | omega | (simp <;> omega)); try simp only [ex,reduceIte,reduceCtorEq,Nat.reduceEqDiff,Nat.reduceLT,Nat.reduceLeDiff,Nat.reduceAdd,Nat.reduceSub,Nat.reduceMul,Int.reduceAdd,Int.reduceSub,Int.reduceMul,Int.reduceNeg,Int.reduceLE,Int.reduceLT,Int.reduceEq,Int.reduceToNat])
/-- A region in the row: what was laid clean may be written. -/
def rgO (r : Rg) : V := .agg [.int .i64 r.k, .sl (decide (r.k = 1)) 1 (r.l.map .str), .sl (decide (r.k = 1)) 1 (r.o.map .str), .sl (decide (r.k = 1)) 1 (r.b.map .str), .sl (decide (r.k = 1)) 1 (r.t.map .str)]
/-- The row under number b holds the regions. -/
def Row (h : Heap) (n b : Nat) (rs : List Rg) : Prop :=
  b < n ∧ (∀ k, n ≤ k → get h k = none) ∧
    ((rs = [] ∧ get h b = some (.rows 1 [.agg [.hs 0 0 0 0]])) ∨ ∃ c, c < n ∧ c ≠ b ∧ 0 < rs.length ∧ get h b = some (.rows 1 [.agg [.hs c 5 0 rs.length]]) ∧ get h c = some (.rows 5 (rs.map rgO)))
theorem row_clean (o : Bool) (rs : List Rg) (l : List Sx) (h : Heap) (n b : Nat) (hok : OkR rs) (hl : l.length ≤ 1000000) (hR : Row h n b rs) :
    Run tab 29 0 [.ptr b 1 0 0, .sl o 1 (l.map .str)] h n (fun r h' n' => r = .tup [] ∧ Row h' n' b (addC rs l) ∧ n ≤ n') := by
  have h1 := hok.1
  obtain ⟨hb, hn, hR⟩ := hR
  refine enter (F := f29) rfl rfl ?_
  simp only [f29, ex,reduceIte,reduceCtorEq,Nat.reduceEqDiff,Nat.reduceLT,Nat.reduceLeDiff,Nat.reduceAdd,Nat.reduceSub,Nat.reduceMul,Int.reduceAdd,Int.reduceSub,Int.reduceMul,Int.reduceNeg,Int.reduceLE,Int.reduceLT,Int.reduceEq,Int.reduceToNat]
  rcases Classical.em (l = []) with e | e
  · subst e
    have d1 : decide (((([] : List Sx).length : Nat) : Int) = 0) = true := by decide
    have a1 : addC rs [] = rs := by simp [addC]
    rw [a1]
    (try simp only [d1, ex,reduceIte,reduceCtorEq,Nat.reduceEqDiff,Nat.reduceLT,Nat.reduceLeDiff,Nat.reduceAdd,Nat.reduceSub,Nat.reduceMul,Int.reduceAdd,Int.reduceSub,Int.reduceMul,Int.reduceNeg,Int.reduceLE,Int.reduceLT,Int.reduceEq,Int.reduceToNat]) <;> repeat ((with_reducible refine Req.intro ?_ ?_); (first | omega | (simp <;> omega)); try simp only [d1, ex,reduceIte,reduceCtorEq,Nat.reduceEqDiff,Nat.reduceLT,Nat.reduceLeDiff,Nat.reduceAdd,Nat.reduceSub,Nat.reduceMul,Int.reduceAdd,Int.reduceSub,Int.reduceMul,Int.reduceNeg,Int.reduceLE,Int.reduceLT,Int.reduceEq,Int.reduceToNat])
    exact ⟨rfl, hb, hn, hR⟩
  · have hp : 0 < l.length := List.length_pos_iff.2 e
    have d1 : decide ((l.length : Int) = 0) = false := by simp; omega
    rcases hR with ⟨e2, g1⟩ | ⟨c, c1, c2, c3, g1, g2⟩
    · subst e2
      have a1 : addC [] l = [⟨1, l, [], [], []⟩] := by simp [addC, e]
      rw [a1]
      have d2 : decide (((0 : Nat) : Int) > 0) = false := by decide
      (try simp only [d1, g1, d2, ex,reduceIte,reduceCtorEq,Nat.reduceEqDiff,Nat.reduceLT,Nat.reduceLeDiff,Nat.reduceAdd,Nat.reduceSub,Nat.reduceMul,Int.reduceAdd,Int.reduceSub,Int.reduceMul,Int.reduceNeg,Int.reduceLE,Int.reduceLT,Int.reduceEq,Int.reduceToNat]) <;> repeat ((with_reducible refine Req.intro ?_ ?_); (first | omega | (simp <;> omega)); try simp only [d1, g1, d2, ex,reduceIte,reduceCtorEq,Nat.reduceEqDiff,Nat.reduceLT,Nat.reduceLeDiff,Nat.reduceAdd,Nat.reduceSub,Nat.reduceMul,Int.reduceAdd,Int.reduceSub,Int.reduceMul,Int.reduceNeg,Int.reduceLE,Int.reduceLT,Int.reduceEq,Int.reduceToNat])
      refine CallD.eq rfl (clone_spec o l hl) rfl ?_
      have n1 := hn n (Nat.le_refl _)
      have s1 : ∀ x y, get (set (del (set h n x) n) (n + 1) y) b = some (.rows 1 [.agg [.hs 0 0 0 0]]) := fun x y => by rw [get_set_other (by omega), get_del_other1 _ (by omega), get_set_other (by omega), g1]
      (try simp only [n1, hf_appM, apM_rows, appL_nil, get_set_same, s1, ex,reduceIte,reduceCtorEq,Nat.reduceEqDiff,Nat.reduceLT,Nat.reduceLeDiff,Nat.reduceAdd,Nat.reduceSub,Nat.reduceMul,Int.reduceAdd,Int.reduceSub,Int.reduceMul,Int.reduceNeg,Int.reduceLE,Int.reduceLT,Int.reduceEq,Int.reduceToNat]) <;> repeat ((with_reducible refine Req.intro ?_ ?_); (first | omega | (simp <;> omega)); try simp only [n1, hf_appM, apM_rows, appL_nil, get_set_same, s1, ex,reduceIte,reduceCtorEq,Nat.reduceEqDiff,Nat.reduceLT,Nat.reduceLeDiff,Nat.reduceAdd,Nat.reduceSub,Nat.reduceMul,Int.reduceAdd,Int.reduceSub,Int.reduceMul,Int.reduceNeg,Int.reduceLE,Int.reduceLT,Int.reduceEq,Int.reduceToNat])
      refine ⟨rfl, ⟨by omega, fun k hk => ?_, .inr ⟨n + 1, by omega, by omega, by simp, get_set_same, ?_⟩⟩, by omega⟩
      · rw [get_set_other (by omega), get_set_other (by omega), get_del_other1 _ (by omega), get_set_other (by omega)]
        exact hn k (by omega)
      · rw [get_set_other (by omega), get_set_same]
        rfl
    · rcases List.eq_nil_or_concat rs with q | ⟨qs, r, q⟩
      · subst q; simp at c3
      · rw [List.concat_eq_append] at q
        subst q
        have hq : (qs ++ [r]).length = qs.length + 1 := by simp
        have d2 : decide (((qs.length + 1 : Nat) : Int) > 0) = true := by simp only [decide_eq_true_iff]; omega
        have t1 : (((qs.length + 1 : Nat) : Int) - 1).toNat = qs.length := by omega
        rw [hq] at g1
        have g3 : ((qs ++ [r]).map rgO)[qs.length]? = some (rgO r) := by simp
        have hr := hok.2 r (by simp)
        have hc : (rgO r).cells = [.int .i64 r.k, .sl (decide (r.k = 1)) 1 (r.l.map .str), .sl (decide (r.k = 1)) 1 (r.o.map .str), .sl (decide (r.k = 1)) 1 (r.b.map .str), .sl (decide (r.k = 1)) 1 (r.t.map .str)] := rfl
        rcases Classical.em (r.k = 1) with u | u
        · have d3 : decide (r.k = 1) = true := decide_eq_true u
          have a1 : addC (qs ++ [r]) l = qs ++ [{ r with l := r.l ++ l }] := by simp [addC, e, u]
          rw [a1]
          have rO : rgO r = .agg [.int .i64 r.k, .sl true 1 (r.l.map .str), .sl true 1 (r.o.map .str), .sl true 1 (r.b.map .str), .sl true 1 (r.t.map .str)] := by unfold rgO; rw [d3]
          have s3 : ∀ x, (((qs ++ [r]).map rgO).set qs.length x)[qs.length]? = some x := fun x => List.getElem?_set_self (by simp)
          have s4 : ∀ x y, (((qs ++ [r]).map rgO).set qs.length x).set qs.length y = qs.map rgO ++ [y] := fun x y => by
            rw [List.set_set, List.map_append, show qs.length = (qs.map rgO).length by simp, List.set_append_right _ _ (Nat.le_refl _)]
            simp
          (try simp only [d1, g1, g2, g3, d2, t1, hc, d3, hq, rO, get_set_same, s3, s4, ex,reduceIte,reduceCtorEq,Nat.reduceEqDiff,Nat.reduceLT,Nat.reduceLeDiff,Nat.reduceAdd,Nat.reduceSub,Nat.reduceMul,Int.reduceAdd,Int.reduceSub,Int.reduceMul,Int.reduceNeg,Int.reduceLE,Int.reduceLT,Int.reduceEq,Int.reduceToNat]) <;> repeat ((with_reducible refine Req.intro ?_ ?_); (first | omega | (simp <;> omega)); try simp only [d1, g1, g2, g3, d2, t1, hc, d3, hq, rO, get_set_same, s3, s4, ex,reduceIte,reduceCtorEq,Nat.reduceEqDiff,Nat.reduceLT,Nat.reduceLeDiff,Nat.reduceAdd,Nat.reduceSub,Nat.reduceMul,Int.reduceAdd,Int.reduceSub,Int.reduceMul,Int.reduceNeg,Int.reduceLE,Int.reduceLT,Int.reduceEq,Int.reduceToNat])
          refine ⟨rfl, by omega, fun k hk => ?_, .inr ⟨c, by omega, c2, by simp, ?_, ?_⟩⟩
          · rw [get_set_other (by omega), get_set_other (by omega)]
            exact hn k (by omega)
          · rw [get_set_other (by omega), get_set_other (by omega), g1]
            simp
          · rw [get_set_same]
            simp [rgO, u]
        · have d3 : decide (r.k = 1) = false := decide_eq_false u
          have a1 : addC (qs ++ [r]) l = qs ++ [r] ++ [⟨1, l, [], [], []⟩] := by simp [addC, e, u]
          rw [a1]
          (try simp only [d1, g1, g2, g3, d2, t1, hc, d3, hq, ex,reduceIte,reduceCtorEq,Nat.reduceEqDiff,Nat.reduceLT,Nat.reduceLeDiff,Nat.reduceAdd,Nat.reduceSub,Nat.reduceMul,Int.reduceAdd,Int.reduceSub,Int.reduceMul,Int.reduceNeg,Int.reduceLE,Int.reduceLT,Int.reduceEq,Int.reduceToNat]) <;> repeat ((with_reducible refine Req.intro ?_ ?_); (first | omega | (simp <;> omega)); try simp only [d1, g1, g2, g3, d2, t1, hc, d3, hq, ex,reduceIte,reduceCtorEq,Nat.reduceEqDiff,Nat.reduceLT,Nat.reduceLeDiff,Nat.reduceAdd,Nat.reduceSub,Nat.reduceMul,Int.reduceAdd,Int.reduceSub,Int.reduceMul,Int.reduceNeg,Int.reduceLE,Int.reduceLT,Int.reduceEq,Int.reduceToNat])
          refine CallD.eq rfl (clone_spec o l hl) rfl ?_
          have n1 := hn n (Nat.le_refl _)
          have s1 : ∀ x, get (del (set h n x) n) c = some (.rows 5 ((qs ++ [r]).map rgO)) := fun x => by rw [get_del_other1 _ (by omega), get_set_other (by omega), g2]
          have s2 : ∀ x y, get (set (del (del (set h n x) n) c) (n + 1) y) b = some (.rows 1 [.agg [.hs c 5 0 (qs.length + 1)]]) := fun x y => by rw [get_set_other (by omega), get_del_other1 _ (by omega), get_del_other1 _ (by omega), get_set_other (by omega), g1]
          have hq2 : ((qs ++ [r]).map rgO).length = qs.length + 1 := by simp
          have hq3 : ((qs ++ [r]).map rgO).take (qs.length + 1) = (qs ++ [r]).map rgO := List.take_of_length_le (by omega)
          (try simp only [n1, hf_appM, apM_rows, appL_put, apL_rows, get_set_same, s1, s2, hq2, hq3, ex,reduceIte,reduceCtorEq,Nat.reduceEqDiff,Nat.reduceLT,Nat.reduceLeDiff,Nat.reduceAdd,Nat.reduceSub,Nat.reduceMul,Int.reduceAdd,Int.reduceSub,Int.reduceMul,Int.reduceNeg,Int.reduceLE,Int.reduceLT,Int.reduceEq,Int.reduceToNat]) <;> repeat ((with_reducible refine Req.intro ?_ ?_); (first | omega | (simp <;> omega)); try simp only [n1, hf_appM, apM_rows, appL_put, apL_rows, get_set_same, s1, s2, hq2, hq3, ex,reduceIte,reduceCtorEq,Nat.reduceEqDiff,Nat.reduceLT,Nat.reduceLeDiff,Nat.reduceAdd,Nat.reduceSub,Nat.reduceMul,Int.reduceAdd,Int.reduceSub,Int.reduceMul,Int.reduceNeg,Int.reduceLE,Int.reduceLT,Int.reduceEq,Int.reduceToNat])
          refine ⟨rfl, ⟨by omega, fun k hk => ?_, .inr ⟨n + 1, by omega, by omega, by simp, ?_, ?_⟩⟩, by omega⟩
          · rw [get_set_other (by omega), get_set_other (by omega), get_del_other1 _ (by omega), get_del_other1 _ (by omega), get_set_other (by omega)]
            exact hn k (by omega)
          · rw [get_set_same]
            simp
          · rw [get_set_other (by omega), get_set_same]
            simp [rgO]
end Go.Proofs.Ytnodepfoahmcmaa.E.Hs

/- Chapter 12: parsing, in plain terms. Conditions: none. -/
namespace Go.Proofs.Ytnodepfoahmcmaa.E.Hs
set_option linter.unusedVariables false
set_option linter.unusedSimpArgs false
set_option maxHeartbeats 20000000
set_option maxRecDepth 100000

/-- No more than i lines. -/
def Sz (i : Nat) (r : Rg) : Prop := r.l.length ≤ i ∧ r.o.length ≤ i ∧ r.b.length ≤ i ∧ r.t.length ≤ i
def SzL (i : Nat) (rs : List Rg) : Prop := rs.length ≤ i ∧ ∀ r ∈ rs, Sz i r
theorem Sz.up {i j : Nat} {r : Rg} (h : Sz i r) (hi : i ≤ j) : Sz j r := by unfold Sz at *; omega
theorem SzL.up {i j : Nat} {rs : List Rg} (h : SzL i rs) (hi : i ≤ j) : SzL j rs := ⟨by have := h.1; omega, fun r hr => (h.2 r hr).up hi⟩
theorem SzL.snoc {i : Nat} {rs : List Rg} {r : Rg} (h : SzL i rs) (hr : Sz (i + 1) r) : SzL (i + 1) (rs ++ [r]) := by
  refine ⟨by have := h.1; simp; omega, fun x hx => ?_⟩
  rcases List.mem_append.1 hx with hx | hx
  · exact (h.2 x hx).up (by omega)
  · rw [List.mem_singleton.1 hx]; exact hr
theorem addC_step (rs : List Rg) (l : List Sx) (hl : l ≠ []) : (rs = [] ∧ addC rs l = [⟨1, l, [], [], []⟩]) ∨ ∃ qs r, rs = qs ++ [r] ∧ ((r.k = 1 ∧ addC rs l = qs ++ [⟨r.k, r.l ++ l, r.o, r.b, r.t⟩]) ∨ (r.k ≠ 1 ∧ addC rs l = qs ++ [r] ++ [⟨1, l, [], [], []⟩])) := by
  rcases List.eq_nil_or_concat rs with q | ⟨qs, r, q⟩
  · subst q; exact .inl ⟨rfl, by simp [addC, hl]⟩
  · rw [List.concat_eq_append] at q
    subst q
    refine .inr ⟨qs, r, rfl, ?_⟩
    rcases Classical.em (r.k = 1) with c | c
    · exact .inl ⟨c, by simp [addC, hl, c]⟩
    · exact .inr ⟨c, by simp [addC, hl, c]⟩
theorem SzL.addC {i : Nat} {rs : List Rg} {l : Sx} (h : SzL i rs) : SzL (i + 1) (addC rs [l]) := by
  have one : Sz (i + 1) ⟨1, [l], [], [], []⟩ := by unfold Sz; simp
  rcases addC_step rs [l] (by simp) with ⟨e, q⟩ | ⟨qs, r, e, ⟨c, q⟩ | ⟨c, q⟩⟩
  · rw [q]; exact SzL.snoc (rs := []) ⟨by simp, by simp⟩ one
  · rw [q]
    subst e
    have hr := h.2 r (by simp)
    refine ⟨by have := h.1; simp at this ⊢; omega, fun x hx => ?_⟩
    rcases List.mem_append.1 hx with hx | hx
    · exact (h.2 x (by simp [hx])).up (by omega)
    · rw [List.mem_singleton.1 hx]
      unfold Sz at hr ⊢
      simp; omega
  · rw [q]; subst e; exact h.snoc one
theorem SzL.ok {i : Nat} {rs : List Rg} (h : SzL i rs) (hi : i ≤ 10000) : OkR rs := ⟨by have := h.1; omega, fun r hr => by
  have := h.2 r hr
  unfold Sz at this; omega⟩
theorem noH_O : ∀ rs : List Rg, (rs.map rgO).all noH2 = true
  | [] => rfl
  | r :: rs => by simp only [List.map_cons, List.all_cons, noH_O rs, Bool.and_true]; rfl
theorem clr_O (rs : List Rg) : (rs.map rgO).map clr2 = rs.map rgV := by rw [List.map_map]; rfl
theorem frz_nil {h : Heap} {b n : Nat} {k : V × Heap × Nat → Prop} {t : Tag k} : WK (E.hf (.frz 5) [.hs b 0 0 0] h n) k t = k (.sl false 5 [], h, 0) := rfl
theorem frz_rs {h : Heap} {c : Nat} {rs : List Rg} {k : V × Heap × Nat → Prop} (g : get h c = some (.rows 5 (rs.map rgO))) : frB h c 5 0 rs.length k = k (.sl false 5 (rs.map rgV), del h c, 0) := by
  unfold frB
  simp only [E.hf, g]
  rw [if_neg (by decide), if_pos trivial, if_pos ⟨trivial, by simp, noH_O rs⟩, List.drop_zero, List.take_of_length_le (by simp), clr_O]
  rfl
end Go.Proofs.Ytnodepfoahmcmaa.E.Hs

/- Fixed examples of chapter 12: run outright. Conditions: none. -/
namespace Go.Proofs.Ytnodepfoahmcmaa.E.Hs
set_option linter.unusedVariables false
theorem lives_spec : Run tab 9 0 [] [] 0 (fun r _ _ => r = .bool true) := by
  have h : (evF tab 1000 9 0 [] [] 0).map (fun q => match q.1 with | .bool b => b | _ => false) = some true := by kernel_rfl
  obtain ⟨q, h1, h2⟩ := Option.map_eq_some_iff.1 h
  refine (run_ev 1000 h1).weaken fun r h n hh => ?_
  have e := hh.1
  rw [e]
  generalize q.1 = y at h2
  cases y <;> first | (cases h2; done) | (simp only at h2; rw [h2])
end Go.Proofs.Ytnodepfoahmcmaa.E.Hs

/- Chapter 12: places of both. Conditions: none. -/
namespace Go.Proofs.Ytnodepfoahmcmaa.E.Hs
set_option linter.unusedVariables false
set_option linter.unusedSimpArgs false
set_option maxHeartbeats 20000000
set_option maxRecDepth 100000

def fillR (out : List Int) (A B : Nat) : Nat → List Int
  | 0 => out
  | N + 1 => (fillR out A B N).set (A + N) ((B + N : Nat) : Int)
def plcR (out : List Int) : List Rn → List Int
  | [] => out
  | r :: rs => plcR (fillR out r.A r.B r.N) rs
/-- Where each line of the first list stays in the other. -/
def plc (a b : List Sx) : List Int := plcR (List.replicate a.length (-1)) (leastRn a b)
theorem fillR_len (out : List Int) (A B : Nat) : ∀ N, (fillR out A B N).length = out.length
  | 0 => rfl
  | N + 1 => by rw [fillR, List.length_set, fillR_len out A B N]
theorem plcR_len : ∀ (rs : List Rn) (out : List Int), (plcR out rs).length = out.length
  | [], out => rfl
  | r :: rs, out => by rw [plcR, plcR_len rs, fillR_len]
theorem plcR_snoc : ∀ (rs : List Rn) (out : List Int) (r : Rn), plcR out (rs ++ [r]) = fillR (plcR out rs) r.A r.B r.N
  | [], out, r => rfl
  | x :: rs, out, r => by rw [List.cons_append, plcR, plcR, plcR_snoc rs]
theorem com_all {a b : List Sx} : ∀ {l : List Rn} {i j : Nat}, Com a b l i j → ∀ r ∈ l, r.A + r.N ≤ a.length ∧ r.B + r.N ≤ b.length
  | [], i, j, h, r, hr => by simp at hr
  | x :: l, i, j, h, r, hr => by
    unfold Com at h
    rcases List.mem_cons.1 hr with e | e
    · subst e
      have := h
      unfold Seg at this
      omega
    · exact com_all (l := l) (by first | exact h.2.2.2.2 | exact h.2.2.2 | exact h.2.2) r e
theorem set_neg (n i : Nat) (hi : i < n) : (List.replicate i (-1 : Int) ++ List.replicate (n - i) 0).set i (-1) = List.replicate (i + 1) (-1) ++ List.replicate (n - (i + 1)) 0 := by
  rw [List.set_append_right _ _ (by simp), List.length_replicate, Nat.sub_self, show n - i = (n - (i + 1)) + 1 by omega, List.replicate_succ, List.set_cons_zero, List.replicate_succ', List.append_assoc]
  rfl
def iL (l : List Int) : List V := l.map (.int .i64)
theorem iL_set (l : List Int) (i : Nat) (v : Int) : (iL l).set i (.int .i64 v) = iL (l.set i v) := by unfold iL; rw [List.map_set]
theorem iL_get (l : List Int) (i : Nat) (h : i < l.length) : (iL l)[i]? = some (.int .i64 l[i]) := by simp [iL, h]
theorem iL_len (l : List Int) : (iL l).length = l.length := by simp [iL]
theorem noH_iL : ∀ l : List Int, (iL l).all noH2 = true
  | [] => rfl
  | x :: l => by
    have := noH_iL l
    unfold iL at *
    rw [List.map_cons, List.all_cons, this]; rfl
theorem frz_iL {h : Heap} {c u : Nat} {l : List Int} {k : V × Heap × Nat → Prop} (hu : u = l.length) (g : get h c = some (.rows 1 (iL l))) : frB h c 1 0 u k = k (.sl false 1 (iL l), del h c, 0) := by
  subst hu
  unfold frB
  simp only [E.hf, g]
  rw [if_neg (by decide), if_pos trivial, if_pos ⟨trivial, by simp [iL], noH_iL l⟩, List.drop_zero, List.take_of_length_le (by simp [iL]), show (iL l).map clr2 = iL l by unfold iL; rw [List.map_map]; rfl]
  rfl
theorem places1_spec (o o' : Bool) (a b : List Sx) (ha : a.length ≤ 1000) (hb : b.length ≤ 1000) :
    Run tab 27 0 [.sl o 1 (a.map .str), .sl o' 1 (b.map .str)] [] 0 (fun r _ _ => r = .sl false 1 (iL (plc a b))) := by
  have hcom := (leastRn_com a b (by omega) (by omega)).1
  have hsm := leastEd_small a b (by omega) (by omega)
  have hrl : (leastRn a b).length ≤ 3000 := by
    have := unch_len a.length (leastEd a b) 0 0
    unfold leastRn; omega
  have hca := com_all hcom
  have hun := unchanged_spec false (leastEd a b) a.length hsm.1 (by omega)
  have hlsp := fun o o' => least_spec o o' a b (by omega) (by omega)
  rw [show unch a.length (leastEd a b) 0 0 = leastRn a b from rfl] at hun
  have hpl : plc a b = plcR (List.replicate a.length (-1)) (leastRn a b) := rfl
  rw [hpl]
  generalize leastRn a b = rs at *
  refine enter (F := f27) rfl rfl ?_
  simp only [f27, ex,reduceIte,reduceCtorEq,Nat.reduceEqDiff,Nat.reduceLT,Nat.reduceLeDiff,Nat.reduceAdd,Nat.reduceSub,Nat.reduceMul,Int.reduceAdd,Int.reduceSub,Int.reduceMul,Int.reduceNeg,Int.reduceLE,Int.reduceLT,Int.reduceEq,Int.reduceToNat]
  (try simp only [ex,reduceIte,reduceCtorEq,Nat.reduceEqDiff,Nat.reduceLT,Nat.reduceLeDiff,Nat.reduceAdd,Nat.reduceSub,Nat.reduceMul,Int.reduceAdd,Int.reduceSub,Int.reduceMul,Int.reduceNeg,Int.reduceLE,Int.reduceLT,Int.reduceEq,Int.reduceToNat]) <;> repeat ((with_reducible refine Req.intro ?_ ?_); (first | omega | (simp <;> omega)); try simp only [ex,reduceIte,reduceCtorEq,Nat.reduceEqDiff,Nat.reduceLT,Nat.reduceLeDiff,Nat.reduceAdd,Nat.reduceSub,Nat.reduceMul,Int.reduceAdd,Int.reduceSub,Int.reduceMul,Int.reduceNeg,Int.reduceLE,Int.reduceLT,Int.reduceEq,Int.reduceToNat])
  refine loopI fun L hL => ?_
  (try simp only [ex,reduceIte,reduceCtorEq,Nat.reduceEqDiff,Nat.reduceLT,Nat.reduceLeDiff,Nat.reduceAdd,Nat.reduceSub,Nat.reduceMul,Int.reduceAdd,Int.reduceSub,Int.reduceMul,Int.reduceNeg,Int.reduceLE,Int.reduceLT,Int.reduceEq,Int.reduceToNat]) <;> repeat ((with_reducible refine Req.intro ?_ ?_); (first | omega | (simp <;> omega)); try simp only [ex,reduceIte,reduceCtorEq,Nat.reduceEqDiff,Nat.reduceLT,Nat.reduceLeDiff,Nat.reduceAdd,Nat.reduceSub,Nat.reduceMul,Int.reduceAdd,Int.reduceSub,Int.reduceMul,Int.reduceNeg,Int.reduceLE,Int.reduceLT,Int.reduceEq,Int.reduceToNat])
  have key : ∀ (m i : Nat) (h : Heap), i + m = a.length → get h 0 = some (.rows 1 (iL (List.replicate i (-1) ++ List.replicate (a.length - i) 0))) → L (L27_1 (.sl o 1 (a.map .str)) (.sl o' 1 (b.map .str)) (.hs 0 1 0 a.length) (.int .i64 a.length) (.int .i64 i) h 1) := by
    intro m
    induction m with
    | succ m ih =>
      intro i h hi g
      have k1 : decide ((i : Int) < (a.length : Int)) = true := by simp; omega
      have h9 := fun h => ih (i + 1) h (by omega)
      rw [← set_neg a.length i (by omega)] at h9
      have hl9 : (List.replicate i (-1 : Int) ++ List.replicate (a.length - i) 0).length = a.length := by simp; omega
      generalize List.replicate i (-1 : Int) ++ List.replicate (a.length - i) 0 = out at *
      have g2 := iL_get out i (by omega)
      have e1 := iL_set out i (-1)
      have e2 := iL_len out
      apply hL
      simp only [L27_1, l27_1, ex,reduceIte,reduceCtorEq,Nat.reduceEqDiff,Nat.reduceLT,Nat.reduceLeDiff,Nat.reduceAdd,Nat.reduceSub,Nat.reduceMul,Int.reduceAdd,Int.reduceSub,Int.reduceMul,Int.reduceNeg,Int.reduceLE,Int.reduceLT,Int.reduceEq,Int.reduceToNat]
      (try simp only [k1, g, g2, hl9, e1, e2, ex,reduceIte,reduceCtorEq,Nat.reduceEqDiff,Nat.reduceLT,Nat.reduceLeDiff,Nat.reduceAdd,Nat.reduceSub,Nat.reduceMul,Int.reduceAdd,Int.reduceSub,Int.reduceMul,Int.reduceNeg,Int.reduceLE,Int.reduceLT,Int.reduceEq,Int.reduceToNat]) <;> repeat ((with_reducible refine Req.intro ?_ ?_); (first | omega | (simp <;> omega)); try simp only [k1, g, g2, hl9, e1, e2, ex,reduceIte,reduceCtorEq,Nat.reduceEqDiff,Nat.reduceLT,Nat.reduceLeDiff,Nat.reduceAdd,Nat.reduceSub,Nat.reduceMul,Int.reduceAdd,Int.reduceSub,Int.reduceMul,Int.reduceNeg,Int.reduceLE,Int.reduceLT,Int.reduceEq,Int.reduceToNat])
      exact h9 _ get_set_same
    | zero =>
      intro i h hi g
      have k1 : decide ((i : Int) < (a.length : Int)) = false := by simp; omega
      rw [show a.length - i = 0 by omega, List.replicate_zero, List.append_nil, show i = a.length by omega] at g
      apply hL
      simp only [L27_1, l27_1, ex,reduceIte,reduceCtorEq,Nat.reduceEqDiff,Nat.reduceLT,Nat.reduceLeDiff,Nat.reduceAdd,Nat.reduceSub,Nat.reduceMul,Int.reduceAdd,Int.reduceSub,Int.reduceMul,Int.reduceNeg,Int.reduceLE,Int.reduceLT,Int.reduceEq,Int.reduceToNat]
      (try simp only [k1, ex,reduceIte,reduceCtorEq,Nat.reduceEqDiff,Nat.reduceLT,Nat.reduceLeDiff,Nat.reduceAdd,Nat.reduceSub,Nat.reduceMul,Int.reduceAdd,Int.reduceSub,Int.reduceMul,Int.reduceNeg,Int.reduceLE,Int.reduceLT,Int.reduceEq,Int.reduceToNat]) <;> repeat ((with_reducible refine Req.intro ?_ ?_); (first | omega | (simp <;> omega)); try simp only [k1, ex,reduceIte,reduceCtorEq,Nat.reduceEqDiff,Nat.reduceLT,Nat.reduceLeDiff,Nat.reduceAdd,Nat.reduceSub,Nat.reduceMul,Int.reduceAdd,Int.reduceSub,Int.reduceMul,Int.reduceNeg,Int.reduceLE,Int.reduceLT,Int.reduceEq,Int.reduceToNat])
      refine CallA.eq rfl (hlsp _ _) rfl ?_
      (try simp only [ex,reduceIte,reduceCtorEq,Nat.reduceEqDiff,Nat.reduceLT,Nat.reduceLeDiff,Nat.reduceAdd,Nat.reduceSub,Nat.reduceMul,Int.reduceAdd,Int.reduceSub,Int.reduceMul,Int.reduceNeg,Int.reduceLE,Int.reduceLT,Int.reduceEq,Int.reduceToNat]) <;> repeat ((with_reducible refine Req.intro ?_ ?_); (first | omega | (simp <;> omega)); try simp only [ex,reduceIte,reduceCtorEq,Nat.reduceEqDiff,Nat.reduceLT,Nat.reduceLeDiff,Nat.reduceAdd,Nat.reduceSub,Nat.reduceMul,Int.reduceAdd,Int.reduceSub,Int.reduceMul,Int.reduceNeg,Int.reduceLE,Int.reduceLT,Int.reduceEq,Int.reduceToNat])
      refine CallA.eq rfl hun rfl ?_
      (try simp only [ex,reduceIte,reduceCtorEq,Nat.reduceEqDiff,Nat.reduceLT,Nat.reduceLeDiff,Nat.reduceAdd,Nat.reduceSub,Nat.reduceMul,Int.reduceAdd,Int.reduceSub,Int.reduceMul,Int.reduceNeg,Int.reduceLE,Int.reduceLT,Int.reduceEq,Int.reduceToNat]) <;> repeat ((with_reducible refine Req.intro ?_ ?_); (first | omega | (simp <;> omega)); try simp only [ex,reduceIte,reduceCtorEq,Nat.reduceEqDiff,Nat.reduceLT,Nat.reduceLeDiff,Nat.reduceAdd,Nat.reduceSub,Nat.reduceMul,Int.reduceAdd,Int.reduceSub,Int.reduceMul,Int.reduceNeg,Int.reduceLE,Int.reduceLT,Int.reduceEq,Int.reduceToNat])
      refine loopI fun L3 hL3 => ?_
      (try simp only [ex,reduceIte,reduceCtorEq,Nat.reduceEqDiff,Nat.reduceLT,Nat.reduceLeDiff,Nat.reduceAdd,Nat.reduceSub,Nat.reduceMul,Int.reduceAdd,Int.reduceSub,Int.reduceMul,Int.reduceNeg,Int.reduceLE,Int.reduceLT,Int.reduceEq,Int.reduceToNat]) <;> repeat ((with_reducible refine Req.intro ?_ ?_); (first | omega | (simp <;> omega)); try simp only [ex,reduceIte,reduceCtorEq,Nat.reduceEqDiff,Nat.reduceLT,Nat.reduceLeDiff,Nat.reduceAdd,Nat.reduceSub,Nat.reduceMul,Int.reduceAdd,Int.reduceSub,Int.reduceMul,Int.reduceNeg,Int.reduceLE,Int.reduceLT,Int.reduceEq,Int.reduceToNat])
      have key3 : ∀ (m i N : Nat) (h : Heap), i + m = rs.length → get h 0 = some (.rows 1 (iL (plcR (List.replicate a.length (-1)) (rs.take i)))) → L3 (L27_3 (.hs 0 1 0 a.length) (.sl true 3 (rs.map rnV)) (.int .i64 rs.length) (.int .i64 i) h N) := by
        intro m
        induction m with
        | zero =>
          intro i N h hi g
          have k1 : decide ((i : Int) < (rs.length : Int)) = false := by simp; omega
          rw [List.take_of_length_le (by omega)] at g
          have hfz := fun k => frz_iL (k := k) (u := a.length) (by rw [plcR_len, List.length_replicate]) g
          apply hL3
          simp only [L27_3, l27_3, ex,reduceIte,reduceCtorEq,Nat.reduceEqDiff,Nat.reduceLT,Nat.reduceLeDiff,Nat.reduceAdd,Nat.reduceSub,Nat.reduceMul,Int.reduceAdd,Int.reduceSub,Int.reduceMul,Int.reduceNeg,Int.reduceLE,Int.reduceLT,Int.reduceEq,Int.reduceToNat]
          (try simp only [k1, hfz, ex,reduceIte,reduceCtorEq,Nat.reduceEqDiff,Nat.reduceLT,Nat.reduceLeDiff,Nat.reduceAdd,Nat.reduceSub,Nat.reduceMul,Int.reduceAdd,Int.reduceSub,Int.reduceMul,Int.reduceNeg,Int.reduceLE,Int.reduceLT,Int.reduceEq,Int.reduceToNat]) <;> repeat ((with_reducible refine Req.intro ?_ ?_); (first | omega | (simp <;> omega)); try simp only [k1, hfz, ex,reduceIte,reduceCtorEq,Nat.reduceEqDiff,Nat.reduceLT,Nat.reduceLeDiff,Nat.reduceAdd,Nat.reduceSub,Nat.reduceMul,Int.reduceAdd,Int.reduceSub,Int.reduceMul,Int.reduceNeg,Int.reduceLE,Int.reduceLT,Int.reduceEq,Int.reduceToNat])
        | succ m ih =>
          intro i N h hi g
          have k1 : decide ((i : Int) < (rs.length : Int)) = true := by simp; omega
          have g1 : rs[i]? = some (rs[i]'(by omega)) := List.getElem?_eq_getElem _
          have ht : rs.take (i + 1) = rs.take i ++ [rs[i]'(by omega)] := by rw [List.take_add_one, g1]; rfl
          have hm : rs[i]'(by omega) ∈ rs := List.getElem_mem _
          have h9 := fun N h => ih (i + 1) N h (by omega)
          rw [ht, plcR_snoc] at h9
          generalize rs[i]'(by omega) = r at *
          have hr := hca r hm
          have hc : (rnV r).cells = [.int .i64 r.A, .int .i64 r.B, .int .i64 r.N] := rfl
          have hol : (plcR (List.replicate a.length (-1)) (rs.take i)).length = a.length := by rw [plcR_len, List.length_replicate]
          generalize plcR (List.replicate a.length (-1)) (rs.take i) = out at *
          apply hL3
          simp only [L27_3, l27_3, ex,reduceIte,reduceCtorEq,Nat.reduceEqDiff,Nat.reduceLT,Nat.reduceLeDiff,Nat.reduceAdd,Nat.reduceSub,Nat.reduceMul,Int.reduceAdd,Int.reduceSub,Int.reduceMul,Int.reduceNeg,Int.reduceLE,Int.reduceLT,Int.reduceEq,Int.reduceToNat]
          (try simp only [k1, g1, hc, ex,reduceIte,reduceCtorEq,Nat.reduceEqDiff,Nat.reduceLT,Nat.reduceLeDiff,Nat.reduceAdd,Nat.reduceSub,Nat.reduceMul,Int.reduceAdd,Int.reduceSub,Int.reduceMul,Int.reduceNeg,Int.reduceLE,Int.reduceLT,Int.reduceEq,Int.reduceToNat]) <;> repeat ((with_reducible refine Req.intro ?_ ?_); (first | omega | (simp <;> omega)); try simp only [k1, g1, hc, ex,reduceIte,reduceCtorEq,Nat.reduceEqDiff,Nat.reduceLT,Nat.reduceLeDiff,Nat.reduceAdd,Nat.reduceSub,Nat.reduceMul,Int.reduceAdd,Int.reduceSub,Int.reduceMul,Int.reduceNeg,Int.reduceLE,Int.reduceLT,Int.reduceEq,Int.reduceToNat])
          refine loopI fun L2 hL2 => ?_
          (try simp only [ex,reduceIte,reduceCtorEq,Nat.reduceEqDiff,Nat.reduceLT,Nat.reduceLeDiff,Nat.reduceAdd,Nat.reduceSub,Nat.reduceMul,Int.reduceAdd,Int.reduceSub,Int.reduceMul,Int.reduceNeg,Int.reduceLE,Int.reduceLT,Int.reduceEq,Int.reduceToNat]) <;> repeat ((with_reducible refine Req.intro ?_ ?_); (first | omega | (simp <;> omega)); try simp only [ex,reduceIte,reduceCtorEq,Nat.reduceEqDiff,Nat.reduceLT,Nat.reduceLeDiff,Nat.reduceAdd,Nat.reduceSub,Nat.reduceMul,Int.reduceAdd,Int.reduceSub,Int.reduceMul,Int.reduceNeg,Int.reduceLE,Int.reduceLT,Int.reduceEq,Int.reduceToNat])
          have key2 : ∀ (q k : Nat) (h : Heap), k + q = r.N → get h 0 = some (.rows 1 (iL (fillR out r.A r.B k))) → L2 (L27_2 (.hs 0 1 0 a.length) (.ptr N 3 0 0) (.sl true 3 (rs.map rnV)) (.int .i64 rs.length) (.int .i64 i) (.int .i64 r.N) (.int .i64 k) N [.int .i64 r.A, .int .i64 r.B, .int .i64 r.N] h (N + 1)) := by
            intro q
            induction q with
            | zero =>
              intro k h hk g
              have k2 : decide ((k : Int) < (r.N : Int)) = false := by simp; omega
              apply hL2
              simp only [L27_2, l27_2, ex,reduceIte,reduceCtorEq,Nat.reduceEqDiff,Nat.reduceLT,Nat.reduceLeDiff,Nat.reduceAdd,Nat.reduceSub,Nat.reduceMul,Int.reduceAdd,Int.reduceSub,Int.reduceMul,Int.reduceNeg,Int.reduceLE,Int.reduceLT,Int.reduceEq,Int.reduceToNat]
              (try simp only [k2, ex,reduceIte,reduceCtorEq,Nat.reduceEqDiff,Nat.reduceLT,Nat.reduceLeDiff,Nat.reduceAdd,Nat.reduceSub,Nat.reduceMul,Int.reduceAdd,Int.reduceSub,Int.reduceMul,Int.reduceNeg,Int.reduceLE,Int.reduceLT,Int.reduceEq,Int.reduceToNat]) <;> repeat ((with_reducible refine Req.intro ?_ ?_); (first | omega | (simp <;> omega)); try simp only [k2, ex,reduceIte,reduceCtorEq,Nat.reduceEqDiff,Nat.reduceLT,Nat.reduceLeDiff,Nat.reduceAdd,Nat.reduceSub,Nat.reduceMul,Int.reduceAdd,Int.reduceSub,Int.reduceMul,Int.reduceNeg,Int.reduceLE,Int.reduceLT,Int.reduceEq,Int.reduceToNat])
              exact h9 _ _ (by rw [show r.N = k by omega]; exact g)
            | succ q ih2 =>
              intro k h hk g
              have k2 : decide ((k : Int) < (r.N : Int)) = true := by simp; omega
              have h8 := fun h => ih2 (k + 1) h (by omega)
              rw [fillR] at h8
              have fl := fillR_len out r.A r.B k
              generalize fillR out r.A r.B k = o2 at *
              have g2 := iL_get o2 (r.A + k) (by omega)
              have e1 := iL_set o2 (r.A + k) ((r.B + k : Nat) : Int)
              have e2 := iL_len o2
              have t1 : ((r.A : Int) + (k : Int)).toNat = r.A + k := by omega
              have t2 : ((r.B + k : Nat) : Int) = (r.B : Int) + (k : Int) := by omega
              rw [t2] at e1 h8
              apply hL2
              simp only [L27_2, l27_2, ex,reduceIte,reduceCtorEq,Nat.reduceEqDiff,Nat.reduceLT,Nat.reduceLeDiff,Nat.reduceAdd,Nat.reduceSub,Nat.reduceMul,Int.reduceAdd,Int.reduceSub,Int.reduceMul,Int.reduceNeg,Int.reduceLE,Int.reduceLT,Int.reduceEq,Int.reduceToNat]
              (try simp only [k2, g, g2, t1, e1, e2, fl, hol, ex,reduceIte,reduceCtorEq,Nat.reduceEqDiff,Nat.reduceLT,Nat.reduceLeDiff,Nat.reduceAdd,Nat.reduceSub,Nat.reduceMul,Int.reduceAdd,Int.reduceSub,Int.reduceMul,Int.reduceNeg,Int.reduceLE,Int.reduceLT,Int.reduceEq,Int.reduceToNat]) <;> repeat ((with_reducible refine Req.intro ?_ ?_); (first | omega | (simp <;> omega)); try simp only [k2, g, g2, t1, e1, e2, fl, hol, ex,reduceIte,reduceCtorEq,Nat.reduceEqDiff,Nat.reduceLT,Nat.reduceLeDiff,Nat.reduceAdd,Nat.reduceSub,Nat.reduceMul,Int.reduceAdd,Int.reduceSub,Int.reduceMul,Int.reduceNeg,Int.reduceLE,Int.reduceLT,Int.reduceEq,Int.reduceToNat])
              exact h8 _ get_set_same
          exact key2 r.N 0 h (Nat.zero_add _) g
      exact key3 rs.length 0 1 h (Nat.zero_add _) g
  exact key a.length 0 _ (Nat.zero_add _) (by simp [get_cons, iL])
end Go.Proofs.Ytnodepfoahmcmaa.E.Hs

/- Chapter 12: one region of a merge: three. Conditions: none. -/
namespace Go.Proofs.Ytnodepfoahmcmaa.E.Hs
set_option linter.unusedVariables false
set_option linter.unusedSimpArgs false
set_option maxHeartbeats 20000000
set_option maxRecDepth 100000

def lsf (o t : List Sx) : Nat := lcp o.reverse t.reverse
/-- A conflict between two sides that differ at their first and last lines. -/
def cfl (rs : List Rg) (b o t : List Sx) : List Rg :=
  addC (rs ++ [⟨2, [], o.take (o.length - lsf o t), b, t.take (t.length - lsf o t)⟩]) (o.drop (o.length - lsf o t))
/-- What becomes of one region. -/
def regC (rs : List Rg) (b o t : List Sx) : List Rg :=
  if o = b then addC rs t else if t = b ∨ o = t then addC rs o else
    cfl (addC rs (o.take (lcp o t))) b (o.drop (lcp o t)) (t.drop (lcp o t))
theorem szl_addL {i j : Nat} {rs : List Rg} {l : List Sx} (h : SzL i rs) (hj : i + l.length + 1 ≤ j) : SzL j (addC rs l) := by
  rcases Classical.em (l = []) with e | e
  · subst e
    have : addC rs [] = rs := by simp [addC]
    rw [this]; exact h.up (by omega)
  · have one : Sz j ⟨1, l, [], [], []⟩ := by unfold Sz; simp; omega
    rcases addC_step rs l e with ⟨e, q⟩ | ⟨qs, r, e, ⟨c, q⟩ | ⟨c, q⟩⟩
    · rw [q]; exact ⟨by simp; omega, fun x hx => by rw [List.mem_singleton.1 hx]; exact one⟩
    · rw [q]
      subst e
      have hr := h.2 r (by simp)
      refine ⟨by have := h.1; simp at this ⊢; omega, fun x hx => ?_⟩
      rcases List.mem_append.1 hx with hx | hx
      · exact (h.2 x (by simp [hx])).up (by omega)
      · rw [List.mem_singleton.1 hx]
        unfold Sz at hr ⊢
        simp; omega
    · rw [q]; subst e
      refine ⟨by have := h.1; simp at this ⊢; omega, fun x hx => ?_⟩
      rcases List.mem_append.1 hx with hx | hx
      · exact (h.2 x hx).up (by omega)
      · rw [List.mem_singleton.1 hx]; exact one
theorem szl_add1 {i j : Nat} {rs : List Rg} {r : Rg} (h : SzL i rs) (hr : Sz j r) (hj : i + 1 ≤ j) : SzL j (rs ++ [r]) := by
  refine ⟨by have := h.1; simp; omega, fun x hx => ?_⟩
  rcases List.mem_append.1 hx with hx | hx
  · exact (h.2 x hx).up (by omega)
  · rw [List.mem_singleton.1 hx]; exact hr
theorem szl_cfl {i j : Nat} {rs : List Rg} {b o t : List Sx} (h : SzL i rs) (hj : i + b.length + o.length + t.length + 2 ≤ j) : SzL j (cfl rs b o t) := by
  unfold cfl
  refine szl_addL (i := i + b.length + t.length + o.length + 1 - (o.drop (o.length - lsf o t)).length) (szl_add1 h ?_ ?_) ?_
  · unfold Sz; simp only [List.length_nil, List.length_take, List.length_drop]; omega
  · simp only [List.length_drop]; omega
  · simp only [List.length_drop]; omega
theorem szl_reg {i j : Nat} {rs : List Rg} {b o t : List Sx} (h : SzL i rs) (hj : i + b.length + o.length + t.length + 3 ≤ j) : SzL j (regC rs b o t) := by
  unfold regC
  split
  · exact szl_addL h (by omega)
  · split
    · exact szl_addL h (by omega)
    · have l1 := (lcp_le o t).1
      have l2 := (lcp_le o t).2
      refine szl_cfl (i := i + lcp o t + 1) (szl_addL h (by rw [List.length_take]; omega)) (by rw [List.length_drop, List.length_drop]; omega)
theorem rev_get (l : List Sx) (m : Nat) (h : m < l.length) : l.reverse[m]? = l[l.length - 1 - m]? := List.getElem?_reverse h
theorem row_region (o1 o2 o3 : Bool) (rs : List Rg) (B O T : List Sx) (h : Heap) (n b i : Nat) (hs : SzL i rs) (hi : i + B.length + O.length + T.length + 3 ≤ 10000) (hR : Row h n b rs) :
    Run tab 28 0 [.ptr b 1 0 0, .sl o1 1 (B.map .str), .sl o2 1 (O.map .str), .sl o3 1 (T.map .str)] h n (fun r h' n' => r = .tup [] ∧ Row h' n' b (regC rs B O T) ∧ n ≤ n') := by
  unfold regC
  rcases Classical.em (O = B) with e | e
  · have d1 : decide (O = B) = true := decide_eq_true e
    rw [if_pos e]
    refine enter (F := f28) rfl rfl ?_
    simp only [f28, ex,reduceIte,reduceCtorEq,Nat.reduceEqDiff,Nat.reduceLT,Nat.reduceLeDiff,Nat.reduceAdd,Nat.reduceSub,Nat.reduceMul,Int.reduceAdd,Int.reduceSub,Int.reduceMul,Int.reduceNeg,Int.reduceLE,Int.reduceLT,Int.reduceEq,Int.reduceToNat]
    (try simp only [ex,reduceIte,reduceCtorEq,Nat.reduceEqDiff,Nat.reduceLT,Nat.reduceLeDiff,Nat.reduceAdd,Nat.reduceSub,Nat.reduceMul,Int.reduceAdd,Int.reduceSub,Int.reduceMul,Int.reduceNeg,Int.reduceLE,Int.reduceLT,Int.reduceEq,Int.reduceToNat]) <;> repeat ((with_reducible refine Req.intro ?_ ?_); (first | omega | (simp <;> omega)); try simp only [ex,reduceIte,reduceCtorEq,Nat.reduceEqDiff,Nat.reduceLT,Nat.reduceLeDiff,Nat.reduceAdd,Nat.reduceSub,Nat.reduceMul,Int.reduceAdd,Int.reduceSub,Int.reduceMul,Int.reduceNeg,Int.reduceLE,Int.reduceLT,Int.reduceEq,Int.reduceToNat])
    refine CallA.eq rfl (equal_spec _ _ O B (by omega) (by omega)) rfl ?_
    (try simp only [d1, ex,reduceIte,reduceCtorEq,Nat.reduceEqDiff,Nat.reduceLT,Nat.reduceLeDiff,Nat.reduceAdd,Nat.reduceSub,Nat.reduceMul,Int.reduceAdd,Int.reduceSub,Int.reduceMul,Int.reduceNeg,Int.reduceLE,Int.reduceLT,Int.reduceEq,Int.reduceToNat]) <;> repeat ((with_reducible refine Req.intro ?_ ?_); (first | omega | (simp <;> omega)); try simp only [d1, ex,reduceIte,reduceCtorEq,Nat.reduceEqDiff,Nat.reduceLT,Nat.reduceLeDiff,Nat.reduceAdd,Nat.reduceSub,Nat.reduceMul,Int.reduceAdd,Int.reduceSub,Int.reduceMul,Int.reduceNeg,Int.reduceLE,Int.reduceLT,Int.reduceEq,Int.reduceToNat])
    refine CallH.any (row_clean _ rs T h n b (hs.ok (by omega)) (by omega) hR) ?_
    intro r h' n' hh
    have y1 := hh.2.1
    have y2 := hh.2.2
    clear hh
    have hn : n + (n' - n) = n' := by omega
    (try simp only [hn, ex,reduceIte,reduceCtorEq,Nat.reduceEqDiff,Nat.reduceLT,Nat.reduceLeDiff,Nat.reduceAdd,Nat.reduceSub,Nat.reduceMul,Int.reduceAdd,Int.reduceSub,Int.reduceMul,Int.reduceNeg,Int.reduceLE,Int.reduceLT,Int.reduceEq,Int.reduceToNat]) <;> repeat ((with_reducible refine Req.intro ?_ ?_); (first | omega | (simp <;> omega)); try simp only [hn, ex,reduceIte,reduceCtorEq,Nat.reduceEqDiff,Nat.reduceLT,Nat.reduceLeDiff,Nat.reduceAdd,Nat.reduceSub,Nat.reduceMul,Int.reduceAdd,Int.reduceSub,Int.reduceMul,Int.reduceNeg,Int.reduceLE,Int.reduceLT,Int.reduceEq,Int.reduceToNat])
    exact ⟨rfl, y1, y2⟩
  · have d1 : decide (O = B) = false := decide_eq_false e
    rw [if_neg e]
    rcases Classical.em (T = B) with e2 | e2
    · have d2 : decide (T = B) = true := decide_eq_true e2
      rw [if_pos (.inl e2)]
      refine enter (F := f28) rfl rfl ?_
      simp only [f28, ex,reduceIte,reduceCtorEq,Nat.reduceEqDiff,Nat.reduceLT,Nat.reduceLeDiff,Nat.reduceAdd,Nat.reduceSub,Nat.reduceMul,Int.reduceAdd,Int.reduceSub,Int.reduceMul,Int.reduceNeg,Int.reduceLE,Int.reduceLT,Int.reduceEq,Int.reduceToNat]
      (try simp only [ex,reduceIte,reduceCtorEq,Nat.reduceEqDiff,Nat.reduceLT,Nat.reduceLeDiff,Nat.reduceAdd,Nat.reduceSub,Nat.reduceMul,Int.reduceAdd,Int.reduceSub,Int.reduceMul,Int.reduceNeg,Int.reduceLE,Int.reduceLT,Int.reduceEq,Int.reduceToNat]) <;> repeat ((with_reducible refine Req.intro ?_ ?_); (first | omega | (simp <;> omega)); try simp only [ex,reduceIte,reduceCtorEq,Nat.reduceEqDiff,Nat.reduceLT,Nat.reduceLeDiff,Nat.reduceAdd,Nat.reduceSub,Nat.reduceMul,Int.reduceAdd,Int.reduceSub,Int.reduceMul,Int.reduceNeg,Int.reduceLE,Int.reduceLT,Int.reduceEq,Int.reduceToNat])
      refine CallA.eq rfl (equal_spec _ _ O B (by omega) (by omega)) rfl ?_
      (try simp only [d1, ex,reduceIte,reduceCtorEq,Nat.reduceEqDiff,Nat.reduceLT,Nat.reduceLeDiff,Nat.reduceAdd,Nat.reduceSub,Nat.reduceMul,Int.reduceAdd,Int.reduceSub,Int.reduceMul,Int.reduceNeg,Int.reduceLE,Int.reduceLT,Int.reduceEq,Int.reduceToNat]) <;> repeat ((with_reducible refine Req.intro ?_ ?_); (first | omega | (simp <;> omega)); try simp only [d1, ex,reduceIte,reduceCtorEq,Nat.reduceEqDiff,Nat.reduceLT,Nat.reduceLeDiff,Nat.reduceAdd,Nat.reduceSub,Nat.reduceMul,Int.reduceAdd,Int.reduceSub,Int.reduceMul,Int.reduceNeg,Int.reduceLE,Int.reduceLT,Int.reduceEq,Int.reduceToNat])
      refine CallA.eq rfl (equal_spec _ _ T B (by omega) (by omega)) rfl ?_
      (try simp only [d2, ex,reduceIte,reduceCtorEq,Nat.reduceEqDiff,Nat.reduceLT,Nat.reduceLeDiff,Nat.reduceAdd,Nat.reduceSub,Nat.reduceMul,Int.reduceAdd,Int.reduceSub,Int.reduceMul,Int.reduceNeg,Int.reduceLE,Int.reduceLT,Int.reduceEq,Int.reduceToNat]) <;> repeat ((with_reducible refine Req.intro ?_ ?_); (first | omega | (simp <;> omega)); try simp only [d2, ex,reduceIte,reduceCtorEq,Nat.reduceEqDiff,Nat.reduceLT,Nat.reduceLeDiff,Nat.reduceAdd,Nat.reduceSub,Nat.reduceMul,Int.reduceAdd,Int.reduceSub,Int.reduceMul,Int.reduceNeg,Int.reduceLE,Int.reduceLT,Int.reduceEq,Int.reduceToNat])
      refine CallH.any (row_clean _ rs O h n b (hs.ok (by omega)) (by omega) hR) ?_
      intro r h' n' hh
      have y1 := hh.2.1
      have y2 := hh.2.2
      clear hh
      have hn : n + (n' - n) = n' := by omega
      (try simp only [hn, ex,reduceIte,reduceCtorEq,Nat.reduceEqDiff,Nat.reduceLT,Nat.reduceLeDiff,Nat.reduceAdd,Nat.reduceSub,Nat.reduceMul,Int.reduceAdd,Int.reduceSub,Int.reduceMul,Int.reduceNeg,Int.reduceLE,Int.reduceLT,Int.reduceEq,Int.reduceToNat]) <;> repeat ((with_reducible refine Req.intro ?_ ?_); (first | omega | (simp <;> omega)); try simp only [hn, ex,reduceIte,reduceCtorEq,Nat.reduceEqDiff,Nat.reduceLT,Nat.reduceLeDiff,Nat.reduceAdd,Nat.reduceSub,Nat.reduceMul,Int.reduceAdd,Int.reduceSub,Int.reduceMul,Int.reduceNeg,Int.reduceLE,Int.reduceLT,Int.reduceEq,Int.reduceToNat])
      exact ⟨rfl, y1, y2⟩
    · have d2 : decide (T = B) = false := decide_eq_false e2
      rcases Classical.em (O = T) with e3 | e3
      · have d3 : decide (O = T) = true := decide_eq_true e3
        rw [if_pos (.inr e3)]
        refine enter (F := f28) rfl rfl ?_
        simp only [f28, ex,reduceIte,reduceCtorEq,Nat.reduceEqDiff,Nat.reduceLT,Nat.reduceLeDiff,Nat.reduceAdd,Nat.reduceSub,Nat.reduceMul,Int.reduceAdd,Int.reduceSub,Int.reduceMul,Int.reduceNeg,Int.reduceLE,Int.reduceLT,Int.reduceEq,Int.reduceToNat]
        (try simp only [ex,reduceIte,reduceCtorEq,Nat.reduceEqDiff,Nat.reduceLT,Nat.reduceLeDiff,Nat.reduceAdd,Nat.reduceSub,Nat.reduceMul,Int.reduceAdd,Int.reduceSub,Int.reduceMul,Int.reduceNeg,Int.reduceLE,Int.reduceLT,Int.reduceEq,Int.reduceToNat]) <;> repeat ((with_reducible refine Req.intro ?_ ?_); (first | omega | (simp <;> omega)); try simp only [ex,reduceIte,reduceCtorEq,Nat.reduceEqDiff,Nat.reduceLT,Nat.reduceLeDiff,Nat.reduceAdd,Nat.reduceSub,Nat.reduceMul,Int.reduceAdd,Int.reduceSub,Int.reduceMul,Int.reduceNeg,Int.reduceLE,Int.reduceLT,Int.reduceEq,Int.reduceToNat])
        refine CallA.eq rfl (equal_spec _ _ O B (by omega) (by omega)) rfl ?_
        (try simp only [d1, ex,reduceIte,reduceCtorEq,Nat.reduceEqDiff,Nat.reduceLT,Nat.reduceLeDiff,Nat.reduceAdd,Nat.reduceSub,Nat.reduceMul,Int.reduceAdd,Int.reduceSub,Int.reduceMul,Int.reduceNeg,Int.reduceLE,Int.reduceLT,Int.reduceEq,Int.reduceToNat]) <;> repeat ((with_reducible refine Req.intro ?_ ?_); (first | omega | (simp <;> omega)); try simp only [d1, ex,reduceIte,reduceCtorEq,Nat.reduceEqDiff,Nat.reduceLT,Nat.reduceLeDiff,Nat.reduceAdd,Nat.reduceSub,Nat.reduceMul,Int.reduceAdd,Int.reduceSub,Int.reduceMul,Int.reduceNeg,Int.reduceLE,Int.reduceLT,Int.reduceEq,Int.reduceToNat])
        refine CallA.eq rfl (equal_spec _ _ T B (by omega) (by omega)) rfl ?_
        (try simp only [d2, ex,reduceIte,reduceCtorEq,Nat.reduceEqDiff,Nat.reduceLT,Nat.reduceLeDiff,Nat.reduceAdd,Nat.reduceSub,Nat.reduceMul,Int.reduceAdd,Int.reduceSub,Int.reduceMul,Int.reduceNeg,Int.reduceLE,Int.reduceLT,Int.reduceEq,Int.reduceToNat]) <;> repeat ((with_reducible refine Req.intro ?_ ?_); (first | omega | (simp <;> omega)); try simp only [d2, ex,reduceIte,reduceCtorEq,Nat.reduceEqDiff,Nat.reduceLT,Nat.reduceLeDiff,Nat.reduceAdd,Nat.reduceSub,Nat.reduceMul,Int.reduceAdd,Int.reduceSub,Int.reduceMul,Int.reduceNeg,Int.reduceLE,Int.reduceLT,Int.reduceEq,Int.reduceToNat])
        refine CallA.eq rfl (equal_spec _ _ O T (by omega) (by omega)) rfl ?_
        (try simp only [d3, ex,reduceIte,reduceCtorEq,Nat.reduceEqDiff,Nat.reduceLT,Nat.reduceLeDiff,Nat.reduceAdd,Nat.reduceSub,Nat.reduceMul,Int.reduceAdd,Int.reduceSub,Int.reduceMul,Int.reduceNeg,Int.reduceLE,Int.reduceLT,Int.reduceEq,Int.reduceToNat]) <;> repeat ((with_reducible refine Req.intro ?_ ?_); (first | omega | (simp <;> omega)); try simp only [d3, ex,reduceIte,reduceCtorEq,Nat.reduceEqDiff,Nat.reduceLT,Nat.reduceLeDiff,Nat.reduceAdd,Nat.reduceSub,Nat.reduceMul,Int.reduceAdd,Int.reduceSub,Int.reduceMul,Int.reduceNeg,Int.reduceLE,Int.reduceLT,Int.reduceEq,Int.reduceToNat])
        refine CallH.any (row_clean _ rs O h n b (hs.ok (by omega)) (by omega) hR) ?_
        intro r h' n' hh
        have y1 := hh.2.1
        have y2 := hh.2.2
        clear hh
        have hn : n + (n' - n) = n' := by omega
        (try simp only [hn, ex,reduceIte,reduceCtorEq,Nat.reduceEqDiff,Nat.reduceLT,Nat.reduceLeDiff,Nat.reduceAdd,Nat.reduceSub,Nat.reduceMul,Int.reduceAdd,Int.reduceSub,Int.reduceMul,Int.reduceNeg,Int.reduceLE,Int.reduceLT,Int.reduceEq,Int.reduceToNat]) <;> repeat ((with_reducible refine Req.intro ?_ ?_); (first | omega | (simp <;> omega)); try simp only [hn, ex,reduceIte,reduceCtorEq,Nat.reduceEqDiff,Nat.reduceLT,Nat.reduceLeDiff,Nat.reduceAdd,Nat.reduceSub,Nat.reduceMul,Int.reduceAdd,Int.reduceSub,Int.reduceMul,Int.reduceNeg,Int.reduceLE,Int.reduceLT,Int.reduceEq,Int.reduceToNat])
        exact ⟨rfl, y1, y2⟩
      · have d3 : decide (O = T) = false := decide_eq_false e3
        rw [if_neg (fun q => q.elim e2 e3)]
        have lle := lcp_le O T
        have hlt := lcp_lt O T
        have hend := lcp_end O T
        refine enter (F := f28) rfl rfl ?_
        simp only [f28, ex,reduceIte,reduceCtorEq,Nat.reduceEqDiff,Nat.reduceLT,Nat.reduceLeDiff,Nat.reduceAdd,Nat.reduceSub,Nat.reduceMul,Int.reduceAdd,Int.reduceSub,Int.reduceMul,Int.reduceNeg,Int.reduceLE,Int.reduceLT,Int.reduceEq,Int.reduceToNat]
        (try simp only [ex,reduceIte,reduceCtorEq,Nat.reduceEqDiff,Nat.reduceLT,Nat.reduceLeDiff,Nat.reduceAdd,Nat.reduceSub,Nat.reduceMul,Int.reduceAdd,Int.reduceSub,Int.reduceMul,Int.reduceNeg,Int.reduceLE,Int.reduceLT,Int.reduceEq,Int.reduceToNat]) <;> repeat ((with_reducible refine Req.intro ?_ ?_); (first | omega | (simp <;> omega)); try simp only [ex,reduceIte,reduceCtorEq,Nat.reduceEqDiff,Nat.reduceLT,Nat.reduceLeDiff,Nat.reduceAdd,Nat.reduceSub,Nat.reduceMul,Int.reduceAdd,Int.reduceSub,Int.reduceMul,Int.reduceNeg,Int.reduceLE,Int.reduceLT,Int.reduceEq,Int.reduceToNat])
        refine CallA.eq rfl (equal_spec _ _ O B (by omega) (by omega)) rfl ?_
        (try simp only [d1, ex,reduceIte,reduceCtorEq,Nat.reduceEqDiff,Nat.reduceLT,Nat.reduceLeDiff,Nat.reduceAdd,Nat.reduceSub,Nat.reduceMul,Int.reduceAdd,Int.reduceSub,Int.reduceMul,Int.reduceNeg,Int.reduceLE,Int.reduceLT,Int.reduceEq,Int.reduceToNat]) <;> repeat ((with_reducible refine Req.intro ?_ ?_); (first | omega | (simp <;> omega)); try simp only [d1, ex,reduceIte,reduceCtorEq,Nat.reduceEqDiff,Nat.reduceLT,Nat.reduceLeDiff,Nat.reduceAdd,Nat.reduceSub,Nat.reduceMul,Int.reduceAdd,Int.reduceSub,Int.reduceMul,Int.reduceNeg,Int.reduceLE,Int.reduceLT,Int.reduceEq,Int.reduceToNat])
        refine CallA.eq rfl (equal_spec _ _ T B (by omega) (by omega)) rfl ?_
        (try simp only [d2, ex,reduceIte,reduceCtorEq,Nat.reduceEqDiff,Nat.reduceLT,Nat.reduceLeDiff,Nat.reduceAdd,Nat.reduceSub,Nat.reduceMul,Int.reduceAdd,Int.reduceSub,Int.reduceMul,Int.reduceNeg,Int.reduceLE,Int.reduceLT,Int.reduceEq,Int.reduceToNat]) <;> repeat ((with_reducible refine Req.intro ?_ ?_); (first | omega | (simp <;> omega)); try simp only [d2, ex,reduceIte,reduceCtorEq,Nat.reduceEqDiff,Nat.reduceLT,Nat.reduceLeDiff,Nat.reduceAdd,Nat.reduceSub,Nat.reduceMul,Int.reduceAdd,Int.reduceSub,Int.reduceMul,Int.reduceNeg,Int.reduceLE,Int.reduceLT,Int.reduceEq,Int.reduceToNat])
        refine CallA.eq rfl (equal_spec _ _ O T (by omega) (by omega)) rfl ?_
        (try simp only [d3, ex,reduceIte,reduceCtorEq,Nat.reduceEqDiff,Nat.reduceLT,Nat.reduceLeDiff,Nat.reduceAdd,Nat.reduceSub,Nat.reduceMul,Int.reduceAdd,Int.reduceSub,Int.reduceMul,Int.reduceNeg,Int.reduceLE,Int.reduceLT,Int.reduceEq,Int.reduceToNat]) <;> repeat ((with_reducible refine Req.intro ?_ ?_); (first | omega | (simp <;> omega)); try simp only [d3, ex,reduceIte,reduceCtorEq,Nat.reduceEqDiff,Nat.reduceLT,Nat.reduceLeDiff,Nat.reduceAdd,Nat.reduceSub,Nat.reduceMul,Int.reduceAdd,Int.reduceSub,Int.reduceMul,Int.reduceNeg,Int.reduceLE,Int.reduceLT,Int.reduceEq,Int.reduceToNat])
        refine loopI fun L hL => ?_
        (try simp only [ex,reduceIte,reduceCtorEq,Nat.reduceEqDiff,Nat.reduceLT,Nat.reduceLeDiff,Nat.reduceAdd,Nat.reduceSub,Nat.reduceMul,Int.reduceAdd,Int.reduceSub,Int.reduceMul,Int.reduceNeg,Int.reduceLE,Int.reduceLT,Int.reduceEq,Int.reduceToNat]) <;> repeat ((with_reducible refine Req.intro ?_ ?_); (first | omega | (simp <;> omega)); try simp only [ex,reduceIte,reduceCtorEq,Nat.reduceEqDiff,Nat.reduceLT,Nat.reduceLeDiff,Nat.reduceAdd,Nat.reduceSub,Nat.reduceMul,Int.reduceAdd,Int.reduceSub,Int.reduceMul,Int.reduceNeg,Int.reduceLE,Int.reduceLT,Int.reduceEq,Int.reduceToNat])
        have key : ∀ (q k : Nat), k + q = lcp O T → L (L28_1 (.ptr b 1 0 0) (.sl o1 1 (B.map .str)) (.sl o2 1 (O.map .str)) (.sl o3 1 (T.map .str)) (.int .i64 k) h n) := by
          intro q
          induction q with
          | succ q ih =>
            intro k hk
            have k1 : decide ((k : Int) < (O.length : Int)) = true := by simp; omega
            have k2 : decide ((k : Int) < (T.length : Int)) = true := by simp; omega
            have hs := hlt k (by omega)
            have hs2 := hs.choose_spec
            generalize hs.choose = s at hs2
            have g1 := hs2.1
            have g2 := hs2.2
            have h9 := ih (k + 1) (by omega)
            clear hs hs2
            have d5 : decide (s = s) = true := decide_eq_true rfl
            apply hL
            simp only [L28_1, l28_1, ex,reduceIte,reduceCtorEq,Nat.reduceEqDiff,Nat.reduceLT,Nat.reduceLeDiff,Nat.reduceAdd,Nat.reduceSub,Nat.reduceMul,Int.reduceAdd,Int.reduceSub,Int.reduceMul,Int.reduceNeg,Int.reduceLE,Int.reduceLT,Int.reduceEq,Int.reduceToNat]
            (try simp only [k1, k2, g1, g2, d5, ex,reduceIte,reduceCtorEq,Nat.reduceEqDiff,Nat.reduceLT,Nat.reduceLeDiff,Nat.reduceAdd,Nat.reduceSub,Nat.reduceMul,Int.reduceAdd,Int.reduceSub,Int.reduceMul,Int.reduceNeg,Int.reduceLE,Int.reduceLT,Int.reduceEq,Int.reduceToNat]) <;> repeat ((with_reducible refine Req.intro ?_ ?_); (first | omega | (simp <;> omega)); try simp only [k1, k2, g1, g2, d5, ex,reduceIte,reduceCtorEq,Nat.reduceEqDiff,Nat.reduceLT,Nat.reduceLeDiff,Nat.reduceAdd,Nat.reduceSub,Nat.reduceMul,Int.reduceAdd,Int.reduceSub,Int.reduceMul,Int.reduceNeg,Int.reduceLE,Int.reduceLT,Int.reduceEq,Int.reduceToNat])
            exact h9
          | zero =>
            intro k hk
            have hk : k = lcp O T := by omega
            rw [← hk] at lle hend
            clear hlt
            apply shareL
            · intro sh
              rcases Nat.lt_or_ge k O.length with c1 | c1
              · have k1 : decide ((k : Int) < (O.length : Int)) = true := by simp; omega
                rcases Nat.lt_or_ge k T.length with c2 | c2
                · have k2 : decide ((k : Int) < (T.length : Int)) = true := by simp; omega
                  have g1 : O[k]? = some (O[k]'c1) := List.getElem?_eq_getElem _
                  have g2 : T[k]? = some (T[k]'c2) := List.getElem?_eq_getElem _
                  have hne := hend _ _ g1 g2
                  generalize O[k]'c1 = s1 at *
                  generalize T[k]'c2 = s2 at *
                  have d5 : decide (s1 = s2) = false := decide_eq_false hne
                  apply hL
                  simp only [L28_1, l28_1, ex,reduceIte,reduceCtorEq,Nat.reduceEqDiff,Nat.reduceLT,Nat.reduceLeDiff,Nat.reduceAdd,Nat.reduceSub,Nat.reduceMul,Int.reduceAdd,Int.reduceSub,Int.reduceMul,Int.reduceNeg,Int.reduceLE,Int.reduceLT,Int.reduceEq,Int.reduceToNat]
                  (try simp only [k1, k2, g1, g2, d5, ex,reduceIte,reduceCtorEq,Nat.reduceEqDiff,Nat.reduceLT,Nat.reduceLeDiff,Nat.reduceAdd,Nat.reduceSub,Nat.reduceMul,Int.reduceAdd,Int.reduceSub,Int.reduceMul,Int.reduceNeg,Int.reduceLE,Int.reduceLT,Int.reduceEq,Int.reduceToNat]) <;> repeat ((with_reducible refine Req.intro ?_ ?_); (first | omega | (simp <;> omega)); try simp only [k1, k2, g1, g2, d5, ex,reduceIte,reduceCtorEq,Nat.reduceEqDiff,Nat.reduceLT,Nat.reduceLeDiff,Nat.reduceAdd,Nat.reduceSub,Nat.reduceMul,Int.reduceAdd,Int.reduceSub,Int.reduceMul,Int.reduceNeg,Int.reduceLE,Int.reduceLT,Int.reduceEq,Int.reduceToNat])
                  exact sh.out
                · have k2 : decide ((k : Int) < (T.length : Int)) = false := by simp; omega
                  apply hL
                  simp only [L28_1, l28_1, ex,reduceIte,reduceCtorEq,Nat.reduceEqDiff,Nat.reduceLT,Nat.reduceLeDiff,Nat.reduceAdd,Nat.reduceSub,Nat.reduceMul,Int.reduceAdd,Int.reduceSub,Int.reduceMul,Int.reduceNeg,Int.reduceLE,Int.reduceLT,Int.reduceEq,Int.reduceToNat]
                  (try simp only [k1, k2, ex,reduceIte,reduceCtorEq,Nat.reduceEqDiff,Nat.reduceLT,Nat.reduceLeDiff,Nat.reduceAdd,Nat.reduceSub,Nat.reduceMul,Int.reduceAdd,Int.reduceSub,Int.reduceMul,Int.reduceNeg,Int.reduceLE,Int.reduceLT,Int.reduceEq,Int.reduceToNat]) <;> repeat ((with_reducible refine Req.intro ?_ ?_); (first | omega | (simp <;> omega)); try simp only [k1, k2, ex,reduceIte,reduceCtorEq,Nat.reduceEqDiff,Nat.reduceLT,Nat.reduceLeDiff,Nat.reduceAdd,Nat.reduceSub,Nat.reduceMul,Int.reduceAdd,Int.reduceSub,Int.reduceMul,Int.reduceNeg,Int.reduceLE,Int.reduceLT,Int.reduceEq,Int.reduceToNat])
                  exact sh.out
              · have k1 : decide ((k : Int) < (O.length : Int)) = false := by simp; omega
                apply hL
                simp only [L28_1, l28_1, ex,reduceIte,reduceCtorEq,Nat.reduceEqDiff,Nat.reduceLT,Nat.reduceLeDiff,Nat.reduceAdd,Nat.reduceSub,Nat.reduceMul,Int.reduceAdd,Int.reduceSub,Int.reduceMul,Int.reduceNeg,Int.reduceLE,Int.reduceLT,Int.reduceEq,Int.reduceToNat]
                (try simp only [k1, ex,reduceIte,reduceCtorEq,Nat.reduceEqDiff,Nat.reduceLT,Nat.reduceLeDiff,Nat.reduceAdd,Nat.reduceSub,Nat.reduceMul,Int.reduceAdd,Int.reduceSub,Int.reduceMul,Int.reduceNeg,Int.reduceLE,Int.reduceLT,Int.reduceEq,Int.reduceToNat]) <;> repeat ((with_reducible refine Req.intro ?_ ?_); (first | omega | (simp <;> omega)); try simp only [k1, ex,reduceIte,reduceCtorEq,Nat.reduceEqDiff,Nat.reduceLT,Nat.reduceLeDiff,Nat.reduceAdd,Nat.reduceSub,Nat.reduceMul,Int.reduceAdd,Int.reduceSub,Int.reduceMul,Int.reduceNeg,Int.reduceLE,Int.reduceLT,Int.reduceEq,Int.reduceToNat])
                exact sh.out
            · refine CallH.any (row_clean _ rs (O.take k) h n b (hs.ok (by omega)) (by rw [List.length_take]; omega) hR) ?_
              intro r h1 n1 hh
              have y1 := hh.2.1
              have y2 := hh.2.2
              clear hh
              have hn1 : n + (n1 - n) = n1 := by omega
              have hs1 : SzL (i + k + 1) (addC rs (O.take k)) := szl_addL hs (by rw [List.length_take]; omega)
              (try simp only [hn1, ex,reduceIte,reduceCtorEq,Nat.reduceEqDiff,Nat.reduceLT,Nat.reduceLeDiff,Nat.reduceAdd,Nat.reduceSub,Nat.reduceMul,Int.reduceAdd,Int.reduceSub,Int.reduceMul,Int.reduceNeg,Int.reduceLE,Int.reduceLT,Int.reduceEq,Int.reduceToNat]) <;> repeat ((with_reducible refine Req.intro ?_ ?_); (first | omega | (simp <;> omega)); try simp only [hn1, ex,reduceIte,reduceCtorEq,Nat.reduceEqDiff,Nat.reduceLT,Nat.reduceLeDiff,Nat.reduceAdd,Nat.reduceSub,Nat.reduceMul,Int.reduceAdd,Int.reduceSub,Int.reduceMul,Int.reduceNeg,Int.reduceLE,Int.reduceLT,Int.reduceEq,Int.reduceToNat])
              rw [← hk]
              have b1 : (O.drop k).length ≤ O.length := by rw [List.length_drop]; omega
              have b2 : (T.drop k).length ≤ T.length := by rw [List.length_drop]; omega
              have b3 : (O.drop k).length + k = O.length := by rw [List.length_drop]; omega
              generalize addC rs (O.take k) = R1 at *
              generalize O.drop k = P at *
              generalize T.drop k = Q at *
              clear hend hR hs hL
              refine loopI fun L4 hL4 => ?_
              (try simp only [ex,reduceIte,reduceCtorEq,Nat.reduceEqDiff,Nat.reduceLT,Nat.reduceLeDiff,Nat.reduceAdd,Nat.reduceSub,Nat.reduceMul,Int.reduceAdd,Int.reduceSub,Int.reduceMul,Int.reduceNeg,Int.reduceLE,Int.reduceLT,Int.reduceEq,Int.reduceToNat]) <;> repeat ((with_reducible refine Req.intro ?_ ?_); (first | omega | (simp <;> omega)); try simp only [ex,reduceIte,reduceCtorEq,Nat.reduceEqDiff,Nat.reduceLT,Nat.reduceLeDiff,Nat.reduceAdd,Nat.reduceSub,Nat.reduceMul,Int.reduceAdd,Int.reduceSub,Int.reduceMul,Int.reduceNeg,Int.reduceLE,Int.reduceLT,Int.reduceEq,Int.reduceToNat])
              have mle := lcp_le P.reverse Q.reverse
              have mlt := lcp_lt P.reverse Q.reverse
              have mend := lcp_end P.reverse Q.reverse
              rw [List.length_reverse, List.length_reverse] at mle
              have key4 : ∀ (q m : Nat), m + q = lsf P Q → L4 (L28_2 (.ptr b 1 0 0) (.sl o1 1 (B.map .str)) (.sl false 1 (P.map .str)) (.sl false 1 (Q.map .str)) (.int .i64 m) h1 n1) := by
                intro q
                induction q with
                | succ q ih =>
                  intro m hm
                  have hm2 : m < lcp P.reverse Q.reverse := by unfold lsf at hm; omega
                  have k1 : decide ((m : Int) < (P.length : Int)) = true := by simp; omega
                  have k2 : decide ((m : Int) < (Q.length : Int)) = true := by simp; omega
                  have hs := mlt m hm2
                  have hs2 := hs.choose_spec
                  generalize hs.choose = s at hs2
                  rw [rev_get _ _ (by omega), rev_get _ _ (by omega)] at hs2
                  have g1 := hs2.1
                  have g2 := hs2.2
                  have h9 := ih (m + 1) (by omega)
                  clear hs hs2
                  have t1 : ((P.length : Int) - 1 - (m : Int)).toNat = P.length - 1 - m := by omega
                  have t2 : ((Q.length : Int) - 1 - (m : Int)).toNat = Q.length - 1 - m := by omega
                  have d5 : decide (s = s) = true := decide_eq_true rfl
                  apply hL4
                  simp only [L28_2, l28_2, ex,reduceIte,reduceCtorEq,Nat.reduceEqDiff,Nat.reduceLT,Nat.reduceLeDiff,Nat.reduceAdd,Nat.reduceSub,Nat.reduceMul,Int.reduceAdd,Int.reduceSub,Int.reduceMul,Int.reduceNeg,Int.reduceLE,Int.reduceLT,Int.reduceEq,Int.reduceToNat]
                  (try simp only [k1, k2, t1, t2, g1, g2, d5, ex,reduceIte,reduceCtorEq,Nat.reduceEqDiff,Nat.reduceLT,Nat.reduceLeDiff,Nat.reduceAdd,Nat.reduceSub,Nat.reduceMul,Int.reduceAdd,Int.reduceSub,Int.reduceMul,Int.reduceNeg,Int.reduceLE,Int.reduceLT,Int.reduceEq,Int.reduceToNat]) <;> repeat ((with_reducible refine Req.intro ?_ ?_); (first | omega | (simp <;> omega)); try simp only [k1, k2, t1, t2, g1, g2, d5, ex,reduceIte,reduceCtorEq,Nat.reduceEqDiff,Nat.reduceLT,Nat.reduceLeDiff,Nat.reduceAdd,Nat.reduceSub,Nat.reduceMul,Int.reduceAdd,Int.reduceSub,Int.reduceMul,Int.reduceNeg,Int.reduceLE,Int.reduceLT,Int.reduceEq,Int.reduceToNat])
                  exact h9
                | zero =>
                  intro m hm
                  have hm : m = lsf P Q := by omega
                  have hmm : m = lcp P.reverse Q.reverse := hm
                  rw [← hmm] at mle mend
                  clear mlt
                  apply shareL
                  · intro sh
                    rcases Nat.lt_or_ge m P.length with c1 | c1
                    · have k1 : decide ((m : Int) < (P.length : Int)) = true := by simp; omega
                      rcases Nat.lt_or_ge m Q.length with c2 | c2
                      · have k2 : decide ((m : Int) < (Q.length : Int)) = true := by simp; omega
                        rw [rev_get _ _ c1, rev_get _ _ c2] at mend
                        have g1 : P[P.length - 1 - m]? = some (P[P.length - 1 - m]'(by omega)) := List.getElem?_eq_getElem _
                        have g2 : Q[Q.length - 1 - m]? = some (Q[Q.length - 1 - m]'(by omega)) := List.getElem?_eq_getElem _
                        have hne := mend _ _ g1 g2
                        generalize P[P.length - 1 - m]'(by omega) = s1 at *
                        generalize Q[Q.length - 1 - m]'(by omega) = s2 at *
                        have t1 : ((P.length : Int) - 1 - (m : Int)).toNat = P.length - 1 - m := by omega
                        have t2 : ((Q.length : Int) - 1 - (m : Int)).toNat = Q.length - 1 - m := by omega
                        have t3 : ((P.length : Int) - (m : Int)).toNat = P.length - m := by omega
                        have t4 : ((Q.length : Int) - (m : Int)).toNat = Q.length - m := by omega
                        have d5 : decide (s1 = s2) = false := decide_eq_false hne
                        apply hL4
                        simp only [L28_2, l28_2, ex,reduceIte,reduceCtorEq,Nat.reduceEqDiff,Nat.reduceLT,Nat.reduceLeDiff,Nat.reduceAdd,Nat.reduceSub,Nat.reduceMul,Int.reduceAdd,Int.reduceSub,Int.reduceMul,Int.reduceNeg,Int.reduceLE,Int.reduceLT,Int.reduceEq,Int.reduceToNat]
                        (try simp only [k1, k2, t1, t2, t3, t4, g1, g2, d5, ex,reduceIte,reduceCtorEq,Nat.reduceEqDiff,Nat.reduceLT,Nat.reduceLeDiff,Nat.reduceAdd,Nat.reduceSub,Nat.reduceMul,Int.reduceAdd,Int.reduceSub,Int.reduceMul,Int.reduceNeg,Int.reduceLE,Int.reduceLT,Int.reduceEq,Int.reduceToNat]) <;> repeat ((with_reducible refine Req.intro ?_ ?_); (first | omega | (simp <;> omega)); try simp only [k1, k2, t1, t2, t3, t4, g1, g2, d5, ex,reduceIte,reduceCtorEq,Nat.reduceEqDiff,Nat.reduceLT,Nat.reduceLeDiff,Nat.reduceAdd,Nat.reduceSub,Nat.reduceMul,Int.reduceAdd,Int.reduceSub,Int.reduceMul,Int.reduceNeg,Int.reduceLE,Int.reduceLT,Int.reduceEq,Int.reduceToNat])
                        exact sh.out
                      · have k2 : decide ((m : Int) < (Q.length : Int)) = false := by simp; omega
                        have t3 : ((P.length : Int) - (m : Int)).toNat = P.length - m := by omega
                        have t4 : ((Q.length : Int) - (m : Int)).toNat = Q.length - m := by omega
                        apply hL4
                        simp only [L28_2, l28_2, ex,reduceIte,reduceCtorEq,Nat.reduceEqDiff,Nat.reduceLT,Nat.reduceLeDiff,Nat.reduceAdd,Nat.reduceSub,Nat.reduceMul,Int.reduceAdd,Int.reduceSub,Int.reduceMul,Int.reduceNeg,Int.reduceLE,Int.reduceLT,Int.reduceEq,Int.reduceToNat]
                        (try simp only [k1, k2, t3, t4, ex,reduceIte,reduceCtorEq,Nat.reduceEqDiff,Nat.reduceLT,Nat.reduceLeDiff,Nat.reduceAdd,Nat.reduceSub,Nat.reduceMul,Int.reduceAdd,Int.reduceSub,Int.reduceMul,Int.reduceNeg,Int.reduceLE,Int.reduceLT,Int.reduceEq,Int.reduceToNat]) <;> repeat ((with_reducible refine Req.intro ?_ ?_); (first | omega | (simp <;> omega)); try simp only [k1, k2, t3, t4, ex,reduceIte,reduceCtorEq,Nat.reduceEqDiff,Nat.reduceLT,Nat.reduceLeDiff,Nat.reduceAdd,Nat.reduceSub,Nat.reduceMul,Int.reduceAdd,Int.reduceSub,Int.reduceMul,Int.reduceNeg,Int.reduceLE,Int.reduceLT,Int.reduceEq,Int.reduceToNat])
                        exact sh.out
                    · have k1 : decide ((m : Int) < (P.length : Int)) = false := by simp; omega
                      have t3 : ((P.length : Int) - (m : Int)).toNat = P.length - m := by omega
                      have t4 : ((Q.length : Int) - (m : Int)).toNat = Q.length - m := by omega
                      apply hL4
                      simp only [L28_2, l28_2, ex,reduceIte,reduceCtorEq,Nat.reduceEqDiff,Nat.reduceLT,Nat.reduceLeDiff,Nat.reduceAdd,Nat.reduceSub,Nat.reduceMul,Int.reduceAdd,Int.reduceSub,Int.reduceMul,Int.reduceNeg,Int.reduceLE,Int.reduceLT,Int.reduceEq,Int.reduceToNat]
                      (try simp only [k1, t3, t4, ex,reduceIte,reduceCtorEq,Nat.reduceEqDiff,Nat.reduceLT,Nat.reduceLeDiff,Nat.reduceAdd,Nat.reduceSub,Nat.reduceMul,Int.reduceAdd,Int.reduceSub,Int.reduceMul,Int.reduceNeg,Int.reduceLE,Int.reduceLT,Int.reduceEq,Int.reduceToNat]) <;> repeat ((with_reducible refine Req.intro ?_ ?_); (first | omega | (simp <;> omega)); try simp only [k1, t3, t4, ex,reduceIte,reduceCtorEq,Nat.reduceEqDiff,Nat.reduceLT,Nat.reduceLeDiff,Nat.reduceAdd,Nat.reduceSub,Nat.reduceMul,Int.reduceAdd,Int.reduceSub,Int.reduceMul,Int.reduceNeg,Int.reduceLE,Int.reduceLT,Int.reduceEq,Int.reduceToNat])
                      exact sh.out
                  · have hcf : cfl R1 B P Q = addC (R1 ++ [⟨2, [], P.take (P.length - m), B, Q.take (Q.length - m)⟩]) (P.drop (P.length - m)) := by unfold cfl; rw [← hm]
                    rw [hcf]
                    have cO : rgO ⟨2, [], P.take (P.length - m), B, Q.take (Q.length - m)⟩ = .agg [.int .i64 2, .sl false 1 [], .sl false 1 ((P.take (P.length - m)).map .str), .sl false 1 (B.map .str), .sl false 1 ((Q.take (Q.length - m)).map .str)] := rfl
                    have cS : SzL 10000 (R1 ++ [⟨2, [], P.take (P.length - m), B, Q.take (Q.length - m)⟩]) := szl_add1 hs1 (by unfold Sz; simp only [List.length_nil, List.length_take]; omega) (by omega)
                    have t3 : ((P.length : Int) - (m : Int)).toNat = P.length - m := by omega
                    have t4 : ((Q.length : Int) - (m : Int)).toNat = Q.length - m := by omega
                    have q1 : (P.take (P.length - m)).length ≤ 1000000 := by rw [List.length_take]; omega
                    have q2 : (Q.take (Q.length - m)).length ≤ 1000000 := by rw [List.length_take]; omega
                    have q3 : (P.drop (P.length - m)).length ≤ 1000000 := by rw [List.length_drop]; omega
                    generalize hP1 : P.take (P.length - m) = P1 at *
                    generalize hQ1 : Q.take (Q.length - m) = Q1 at *
                    generalize hP2 : P.drop (P.length - m) = P2 at *
                    obtain ⟨hb, hn, hR⟩ := y1
                    rcases hR with ⟨u1, u2⟩ | ⟨c, c1, c2, c3, u1, u2⟩
                    · subst u1
                      have s1 : ∀ x, get (set h1 n1 x) b = some (.rows 1 [.agg [.hs 0 0 0 0]]) := fun x => by rw [get_set_other (by omega), u2]
                      (try simp only [u2, t3, hP1, ex,reduceIte,reduceCtorEq,Nat.reduceEqDiff,Nat.reduceLT,Nat.reduceLeDiff,Nat.reduceAdd,Nat.reduceSub,Nat.reduceMul,Int.reduceAdd,Int.reduceSub,Int.reduceMul,Int.reduceNeg,Int.reduceLE,Int.reduceLT,Int.reduceEq,Int.reduceToNat]) <;> repeat ((with_reducible refine Req.intro ?_ ?_); (first | omega | (simp <;> omega)); try simp only [u2, t3, hP1, ex,reduceIte,reduceCtorEq,Nat.reduceEqDiff,Nat.reduceLT,Nat.reduceLeDiff,Nat.reduceAdd,Nat.reduceSub,Nat.reduceMul,Int.reduceAdd,Int.reduceSub,Int.reduceMul,Int.reduceNeg,Int.reduceLE,Int.reduceLT,Int.reduceEq,Int.reduceToNat])
                      refine CallD.eq rfl (clone_spec _ P1 q1) rfl ?_
                      (try simp only [ex,reduceIte,reduceCtorEq,Nat.reduceEqDiff,Nat.reduceLT,Nat.reduceLeDiff,Nat.reduceAdd,Nat.reduceSub,Nat.reduceMul,Int.reduceAdd,Int.reduceSub,Int.reduceMul,Int.reduceNeg,Int.reduceLE,Int.reduceLT,Int.reduceEq,Int.reduceToNat]) <;> repeat ((with_reducible refine Req.intro ?_ ?_); (first | omega | (simp <;> omega)); try simp only [ex,reduceIte,reduceCtorEq,Nat.reduceEqDiff,Nat.reduceLT,Nat.reduceLeDiff,Nat.reduceAdd,Nat.reduceSub,Nat.reduceMul,Int.reduceAdd,Int.reduceSub,Int.reduceMul,Int.reduceNeg,Int.reduceLE,Int.reduceLT,Int.reduceEq,Int.reduceToNat])
                      refine CallD.eq rfl (clone_spec _ B (by omega)) rfl ?_
                      (try simp only [t4, hQ1, ex,reduceIte,reduceCtorEq,Nat.reduceEqDiff,Nat.reduceLT,Nat.reduceLeDiff,Nat.reduceAdd,Nat.reduceSub,Nat.reduceMul,Int.reduceAdd,Int.reduceSub,Int.reduceMul,Int.reduceNeg,Int.reduceLE,Int.reduceLT,Int.reduceEq,Int.reduceToNat]) <;> repeat ((with_reducible refine Req.intro ?_ ?_); (first | omega | (simp <;> omega)); try simp only [t4, hQ1, ex,reduceIte,reduceCtorEq,Nat.reduceEqDiff,Nat.reduceLT,Nat.reduceLeDiff,Nat.reduceAdd,Nat.reduceSub,Nat.reduceMul,Int.reduceAdd,Int.reduceSub,Int.reduceMul,Int.reduceNeg,Int.reduceLE,Int.reduceLT,Int.reduceEq,Int.reduceToNat])
                      refine CallD.eq rfl (clone_spec _ Q1 q2) rfl ?_
                      (try simp only [appB_nil, s1, ex,reduceIte,reduceCtorEq,Nat.reduceEqDiff,Nat.reduceLT,Nat.reduceLeDiff,Nat.reduceAdd,Nat.reduceSub,Nat.reduceMul,Int.reduceAdd,Int.reduceSub,Int.reduceMul,Int.reduceNeg,Int.reduceLE,Int.reduceLT,Int.reduceEq,Int.reduceToNat]) <;> repeat ((with_reducible refine Req.intro ?_ ?_); (first | omega | (simp <;> omega)); try simp only [appB_nil, s1, ex,reduceIte,reduceCtorEq,Nat.reduceEqDiff,Nat.reduceLT,Nat.reduceLeDiff,Nat.reduceAdd,Nat.reduceSub,Nat.reduceMul,Int.reduceAdd,Int.reduceSub,Int.reduceMul,Int.reduceNeg,Int.reduceLE,Int.reduceLT,Int.reduceEq,Int.reduceToNat])
                      refine CallH.any (row_clean _ _ P2 _ (n1 + 1) b (cS.ok (Nat.le_refl _)) q3 ⟨by omega, fun k hk => ?_, .inr ⟨n1, by omega, by omega, by simp, ?_, ?_⟩⟩) ?_
                      · rw [get_set_other (by omega), get_set_other (by omega)]
                        exact hn k (by omega)
                      · exact get_set_same
                      · rw [get_set_other (by omega), get_set_same, List.nil_append, List.map_cons, List.map_nil, cO]
                      · intro r2 h2 n2 hh
                        have y3 := hh.2.1
                        have y4 := hh.2.2
                        clear hh
                        have hn2 : n1 + 1 + (n2 - (n1 + 1)) = n2 := by omega
                        (try simp only [hn2, ex,reduceIte,reduceCtorEq,Nat.reduceEqDiff,Nat.reduceLT,Nat.reduceLeDiff,Nat.reduceAdd,Nat.reduceSub,Nat.reduceMul,Int.reduceAdd,Int.reduceSub,Int.reduceMul,Int.reduceNeg,Int.reduceLE,Int.reduceLT,Int.reduceEq,Int.reduceToNat]) <;> repeat ((with_reducible refine Req.intro ?_ ?_); (first | omega | (simp <;> omega)); try simp only [hn2, ex,reduceIte,reduceCtorEq,Nat.reduceEqDiff,Nat.reduceLT,Nat.reduceLeDiff,Nat.reduceAdd,Nat.reduceSub,Nat.reduceMul,Int.reduceAdd,Int.reduceSub,Int.reduceMul,Int.reduceNeg,Int.reduceLE,Int.reduceLT,Int.reduceEq,Int.reduceToNat])
                        exact ⟨rfl, y3, by omega⟩
                    · obtain ⟨u, hu⟩ : ∃ u, R1.length = u := ⟨_, rfl⟩
                      have e5 : (R1.map rgO).length = u := by simp [hu]
                      have e6 : (R1.map rgO).take u = R1.map rgO := List.take_of_length_le (by omega)
                      have zb := hs1.1
                      rw [hu] at u1 c3
                      have s1 : ∀ x, get (set (del h1 c) n1 x) b = some (.rows 1 [.agg [.hs c 5 0 u]]) := fun x => by rw [get_set_other (by omega), get_del_other1 _ (by omega), u1]
                      (try simp only [u1, t3, hP1, ex,reduceIte,reduceCtorEq,Nat.reduceEqDiff,Nat.reduceLT,Nat.reduceLeDiff,Nat.reduceAdd,Nat.reduceSub,Nat.reduceMul,Int.reduceAdd,Int.reduceSub,Int.reduceMul,Int.reduceNeg,Int.reduceLE,Int.reduceLT,Int.reduceEq,Int.reduceToNat]) <;> repeat ((with_reducible refine Req.intro ?_ ?_); (first | omega | (simp <;> omega)); try simp only [u1, t3, hP1, ex,reduceIte,reduceCtorEq,Nat.reduceEqDiff,Nat.reduceLT,Nat.reduceLeDiff,Nat.reduceAdd,Nat.reduceSub,Nat.reduceMul,Int.reduceAdd,Int.reduceSub,Int.reduceMul,Int.reduceNeg,Int.reduceLE,Int.reduceLT,Int.reduceEq,Int.reduceToNat])
                      refine CallD.eq rfl (clone_spec _ P1 q1) rfl ?_
                      (try simp only [ex,reduceIte,reduceCtorEq,Nat.reduceEqDiff,Nat.reduceLT,Nat.reduceLeDiff,Nat.reduceAdd,Nat.reduceSub,Nat.reduceMul,Int.reduceAdd,Int.reduceSub,Int.reduceMul,Int.reduceNeg,Int.reduceLE,Int.reduceLT,Int.reduceEq,Int.reduceToNat]) <;> repeat ((with_reducible refine Req.intro ?_ ?_); (first | omega | (simp <;> omega)); try simp only [ex,reduceIte,reduceCtorEq,Nat.reduceEqDiff,Nat.reduceLT,Nat.reduceLeDiff,Nat.reduceAdd,Nat.reduceSub,Nat.reduceMul,Int.reduceAdd,Int.reduceSub,Int.reduceMul,Int.reduceNeg,Int.reduceLE,Int.reduceLT,Int.reduceEq,Int.reduceToNat])
                      refine CallD.eq rfl (clone_spec _ B (by omega)) rfl ?_
                      (try simp only [t4, hQ1, ex,reduceIte,reduceCtorEq,Nat.reduceEqDiff,Nat.reduceLT,Nat.reduceLeDiff,Nat.reduceAdd,Nat.reduceSub,Nat.reduceMul,Int.reduceAdd,Int.reduceSub,Int.reduceMul,Int.reduceNeg,Int.reduceLE,Int.reduceLT,Int.reduceEq,Int.reduceToNat]) <;> repeat ((with_reducible refine Req.intro ?_ ?_); (first | omega | (simp <;> omega)); try simp only [t4, hQ1, ex,reduceIte,reduceCtorEq,Nat.reduceEqDiff,Nat.reduceLT,Nat.reduceLeDiff,Nat.reduceAdd,Nat.reduceSub,Nat.reduceMul,Int.reduceAdd,Int.reduceSub,Int.reduceMul,Int.reduceNeg,Int.reduceLE,Int.reduceLT,Int.reduceEq,Int.reduceToNat])
                      refine CallD.eq rfl (clone_spec _ Q1 q2) rfl ?_
                      (try simp only [u2, appB_put, apB_rows, s1, e5, e6, ex,reduceIte,reduceCtorEq,Nat.reduceEqDiff,Nat.reduceLT,Nat.reduceLeDiff,Nat.reduceAdd,Nat.reduceSub,Nat.reduceMul,Int.reduceAdd,Int.reduceSub,Int.reduceMul,Int.reduceNeg,Int.reduceLE,Int.reduceLT,Int.reduceEq,Int.reduceToNat]) <;> repeat ((with_reducible refine Req.intro ?_ ?_); (first | omega | (simp <;> omega)); try simp only [u2, appB_put, apB_rows, s1, e5, e6, ex,reduceIte,reduceCtorEq,Nat.reduceEqDiff,Nat.reduceLT,Nat.reduceLeDiff,Nat.reduceAdd,Nat.reduceSub,Nat.reduceMul,Int.reduceAdd,Int.reduceSub,Int.reduceMul,Int.reduceNeg,Int.reduceLE,Int.reduceLT,Int.reduceEq,Int.reduceToNat])
                      refine CallH.any (row_clean _ _ P2 _ (n1 + 1) b (cS.ok (Nat.le_refl _)) q3 ⟨by omega, fun k hk => ?_, .inr ⟨n1, by omega, by omega, by simp, ?_, ?_⟩⟩) ?_
                      · rw [get_set_other (by omega), get_set_other (by omega), get_del_other1 _ (by omega)]
                        exact hn k (by omega)
                      · rw [get_set_same, List.length_append, List.length_singleton, hu]
                      · rw [get_set_other (by omega), get_set_same, List.map_append, List.map_cons, List.map_nil, cO]
                      · intro r2 h2 n2 hh
                        have y3 := hh.2.1
                        have y4 := hh.2.2
                        clear hh
                        have hn2 : n1 + 1 + (n2 - (n1 + 1)) = n2 := by omega
                        (try simp only [hn2, ex,reduceIte,reduceCtorEq,Nat.reduceEqDiff,Nat.reduceLT,Nat.reduceLeDiff,Nat.reduceAdd,Nat.reduceSub,Nat.reduceMul,Int.reduceAdd,Int.reduceSub,Int.reduceMul,Int.reduceNeg,Int.reduceLE,Int.reduceLT,Int.reduceEq,Int.reduceToNat]) <;> repeat ((with_reducible refine Req.intro ?_ ?_); (first | omega | (simp <;> omega)); try simp only [hn2, ex,reduceIte,reduceCtorEq,Nat.reduceEqDiff,Nat.reduceLT,Nat.reduceLeDiff,Nat.reduceAdd,Nat.reduceSub,Nat.reduceMul,Int.reduceAdd,Int.reduceSub,Int.reduceMul,Int.reduceNeg,Int.reduceLE,Int.reduceLT,Int.reduceEq,Int.reduceToNat])
                        exact ⟨rfl, y3, by omega⟩
              exact key4 (lsf P Q) 0 (Nat.zero_add _)
        exact key (lcp O T) 0 (Nat.zero_add _)
end Go.Proofs.Ytnodepfoahmcmaa.E.Hs

/- Chapter 12: one region of a merge: the reference. Conditions: none. -/
namespace Go.Proofs.Ytnodepfoahmcmaa.E.Hs
set_option linter.unusedVariables false
set_option linter.unusedSimpArgs false
set_option maxHeartbeats 20000000
set_option maxRecDepth 100000

end Go.Proofs.Ytnodepfoahmcmaa.E.Hs

/- Chapter 12: where lines stay, and the merge, in plain terms. Conditions: none. -/
namespace Go.Proofs.Ytnodepfoahmcmaa.E.Hs
set_option linter.unusedVariables false
set_option linter.unusedSimpArgs false
set_option maxHeartbeats 2000000
set_option maxRecDepth 100000

def plcF : List Rn → Nat → Int
  | [], p => -1
  | r :: rs, p => if r.A ≤ p ∧ p < r.A + r.N then ((r.B + (p - r.A) : Nat) : Int) else plcF rs p
theorem fillR_get (out : List Int) (A B : Nat) : ∀ (N p : Nat), p < out.length → (fillR out A B N)[p]? = if A ≤ p ∧ p < A + N then some ((B + (p - A) : Nat) : Int) else out[p]?
  | 0, p, h => by rw [fillR, if_neg (by omega)]
  | N + 1, p, h => by
    have ih := fillR_get out A B N p h
    rw [fillR, List.getElem?_set, fillR_len]
    by_cases e : A + N = p
    · rw [if_pos e, if_pos (by omega), if_pos (by omega)]
      congr 3; omega
    · rw [if_neg e, ih]
      by_cases c : A ≤ p ∧ p < A + N
      · rw [if_pos c, if_pos (by omega)]
      · rw [if_neg c, if_neg (by omega)]
theorem plcF_neg : ∀ (rs : List Rn) (p : Nat), plcF rs p < 0 → plcF rs p = -1
  | [], p, h => rfl
  | r :: rs, p, h => by
    rw [plcF] at h ⊢
    split at h
    · omega
    · rename_i c; rw [if_neg c]; exact plcF_neg rs p h
theorem plcF_at {a b : List Sx} : ∀ {rs : List Rn} {i j p : Nat}, Com a b rs i j → 0 ≤ plcF rs p → i ≤ p ∧ (j : Int) ≤ plcF rs p ∧ plcF rs p < b.length ∧ p < a.length ∧ a[p]? = b[(plcF rs p).toNat]?
  | [], i, j, p, h, h0 => by simp [plcF] at h0
  | r :: rs, i, j, p, h, h0 => by
    obtain ⟨q1, q2, q3, ⟨q4, q5, q6⟩, q7⟩ := h
    rw [plcF] at h0 ⊢
    split
    · rename_i c
      refine ⟨by omega, by omega, by omega, by omega, ?_⟩
      have e := congrArg (fun l : List Sx => l[p - r.A]?) q6
      simp only [List.getElem?_take, List.getElem?_drop] at e
      rw [if_pos (by omega), if_pos (by omega), show r.A + (p - r.A) = p by omega] at e
      rw [Int.toNat_natCast]
      exact e
    · rename_i c
      rw [if_neg c] at h0
      have := plcF_at q7 h0
      exact ⟨by omega, by omega, this.2.2.1, this.2.2.2.1, this.2.2.2.2⟩
theorem plcF_mono {a b : List Sx} : ∀ {rs : List Rn} {i j p q : Nat}, Com a b rs i j → q < p → 0 ≤ plcF rs q → 0 ≤ plcF rs p → plcF rs q < plcF rs p
  | [], i, j, p, q, h, hqp, h0, h1 => by simp [plcF] at h0
  | r :: rs, i, j, p, q, h, hqp, h0, h1 => by
    obtain ⟨q1, q2, q3, q4, q7⟩ := h
    rw [plcF] at h0 h1
    rw [plcF, plcF]
    by_cases c1 : r.A ≤ q ∧ q < r.A + r.N
    · rw [if_pos c1]
      by_cases c2 : r.A ≤ p ∧ p < r.A + r.N
      · rw [if_pos c2]; omega
      · rw [if_neg c2] at h1 ⊢
        have := plcF_at q7 h1
        omega
    · rw [if_neg c1] at h0 ⊢
      have w := plcF_at q7 h0
      by_cases c2 : r.A ≤ p ∧ p < r.A + r.N
      · omega
      · rw [if_neg c2] at h1 ⊢
        exact plcF_mono q7 hqp h0 h1
theorem plcR_get {a b : List Sx} : ∀ {rs : List Rn} {i j p : Nat} {out : List Int}, Com a b rs i j → p < out.length → (plcR out rs)[p]? = if 0 ≤ plcF rs p then some (plcF rs p) else out[p]?
  | [], i, j, p, out, h, hp => by simp [plcR, plcF]
  | r :: rs, i, j, p, out, h, hp => by
    obtain ⟨q1, q2, q3, q4, q7⟩ := h
    rw [plcR, plcR_get q7 (by rw [fillR_len]; exact hp), fillR_get _ _ _ _ _ hp, plcF]
    by_cases c : r.A ≤ p ∧ p < r.A + r.N
    · rw [if_pos c, if_pos c]
      have : ¬ 0 ≤ plcF rs p := fun h => by have := plcF_at q7 h; omega
      rw [if_neg this, if_pos (by omega)]
    · rw [if_neg c, if_neg c]
/-- Where line p of the first list stays in the other; -1. -/
def plF (a b : List Sx) (p : Nat) : Int := plcF (leastRn a b) p
theorem plc_len (a b : List Sx) : (plc a b).length = a.length := by unfold plc; rw [plcR_len, List.length_replicate]
theorem plc_get {a b : List Sx} (ha : a.length ≤ 4096) (hb : b.length ≤ 4096) {p : Nat} (hp : p < a.length) : (plc a b)[p]? = some (plF a b p) := by
  have h := (leastRn_com a b ha hb).1
  unfold plc plF
  rw [plcR_get h (by rw [List.length_replicate]; exact hp)]
  split
  · rfl
  · rename_i c
    rw [plcF_neg _ _ (by omega), List.getElem?_replicate, if_pos hp]
theorem plF_at {a b : List Sx} (ha : a.length ≤ 4096) (hb : b.length ≤ 4096) {p : Nat} (h : 0 ≤ plF a b p) : plF a b p < b.length ∧ p < a.length ∧ a[p]? = b[(plF a b p).toNat]? := by
  have := plcF_at (leastRn_com a b ha hb).1 h
  exact ⟨this.2.2.1, this.2.2.2.1, this.2.2.2.2⟩
theorem plF_mono {a b : List Sx} (ha : a.length ≤ 4096) (hb : b.length ≤ 4096) {p q : Nat} (hqp : q < p) (h0 : 0 ≤ plF a b q) (h1 : 0 ≤ plF a b p) : plF a b q < plF a b p := plcF_mono (leastRn_com a b ha hb).1 hqp h0 h1
/-- The merge from line p of base on; i, j, k: where the lists' rests begin. -/
def mrgG (base a b : List Sx) : Nat → Nat → Nat → Nat → Nat → List Rg → List Rg
  | 0, p, i, j, k, rs => regC rs (base.drop i) (a.drop j) (b.drop k)
  | m + 1, p, i, j, k, rs =>
    if plF base a p < 0 ∨ plF base b p < 0 then mrgG base a b m (p + 1) i j k rs
    else mrgG base a b m (p + 1) (p + 1) ((plF base a p).toNat + 1) ((plF base b p).toNat + 1)
      (addC (regC rs ((base.take p).drop i) ((a.take (plF base a p).toNat).drop j) ((b.take (plF base b p).toNat).drop k)) ((base.take (p + 1)).drop p))
def mrg (base a b : List Sx) : List Rg := mrgG base a b base.length 0 0 0 0 []
/-- What holds at line p. -/
structure MOk (base a b : List Sx) (p i j k : Nat) (rs : List Rg) : Prop where
  ip : i ≤ p
  jl : j ≤ a.length
  kl : k ≤ b.length
  ja : ∀ q, p ≤ q → 0 ≤ plF base a q → (j : Int) ≤ plF base a q
  kb : ∀ q, p ≤ q → 0 ≤ plF base b q → (k : Int) ≤ plF base b q
  sz : SzL (6 * p + i + j + k) rs
theorem MOk.skip {base a b : List Sx} {p i j k : Nat} {rs : List Rg} (h : MOk base a b p i j k rs) : MOk base a b (p + 1) i j k rs :=
  ⟨by have := h.ip; omega, h.jl, h.kl, fun q hq => h.ja q (by omega), fun q hq => h.kb q (by omega), h.sz.up (by omega)⟩
theorem MOk.step {base a b : List Sx} {p i j k u v : Nat} {rs : List Rg} (h : MOk base a b p i j k rs) (hc : base.length ≤ 1000) (ha : a.length ≤ 1000) (hb : b.length ≤ 1000) (h1 : plF base a p = u) (h2 : plF base b p = v) :
    j ≤ u ∧ k ≤ v ∧ u < a.length ∧ v < b.length ∧ p < base.length ∧ SzL (7 * p + u + v + 3) (regC rs ((base.take p).drop i) ((a.take u).drop j) ((b.take v).drop k)) ∧ MOk base a b (p + 1) (p + 1) (u + 1) (v + 1) (addC (regC rs ((base.take p).drop i) ((a.take u).drop j) ((b.take v).drop k)) ((base.take (p + 1)).drop p)) := by
  have e1 := h.ja p (Nat.le_refl _) (by omega)
  have e2 := h.kb p (Nat.le_refl _) (by omega)
  have f1 := plF_at (a := base) (b := a) (by omega) (by omega) (p := p) (by omega)
  have f2 := plF_at (a := base) (b := b) (by omega) (by omega) (p := p) (by omega)
  have ip := h.ip
  have hs : SzL (7 * p + u + v + 3) (regC rs ((base.take p).drop i) ((a.take u).drop j) ((b.take v).drop k)) := szl_reg h.sz (by simp only [List.length_drop, List.length_take]; omega)
  refine ⟨by omega, by omega, by omega, by omega, by omega, hs, ⟨by omega, by omega, by omega, fun q hq h0 => ?_, fun q hq h0 => ?_, ?_⟩⟩
  · have := plF_mono (a := base) (b := a) (by omega) (by omega) (p := q) (q := p) (by omega) (by omega) h0
    omega
  · have := plF_mono (a := base) (b := b) (by omega) (by omega) (p := q) (q := p) (by omega) (by omega) h0
    omega
  · exact szl_addL hs (by simp only [List.length_drop, List.length_take]; omega)
theorem MOk.zero (base a b : List Sx) : MOk base a b 0 0 0 0 [] := ⟨by omega, by omega, by omega, fun q _ h => by omega, fun q _ h => by omega, ⟨by simp, by simp⟩⟩
end Go.Proofs.Ytnodepfoahmcmaa.E.Hs

/- Chapter 12: Merge of both: walked. Conditions: none. -/
namespace Go.Proofs.Ytnodepfoahmcmaa.E.Hs
set_option linter.unusedVariables false
set_option linter.unusedSimpArgs false
set_option maxHeartbeats 20000000
set_option maxRecDepth 100000

theorem one_drop (l : List Sx) (p : Nat) : ((l.take (p + 1)).drop p).length ≤ 1 := by rw [List.length_drop, List.length_take]; omega
theorem merge1_spec (o1 o2 o3 : Bool) (C A B : List Sx) (hc : C.length ≤ 1000) (ha : A.length ≤ 1000) (hb : B.length ≤ 1000) :
    Run tab 10 0 [.sl o1 1 (C.map .str), .sl o2 1 (A.map .str), .sl o3 1 (B.map .str)] [] 0 (fun r _ _ => r = .sl false 5 ((mrg C A B).map rgV)) := by
  have pa := fun p (h : p < C.length) => plc_get (a := C) (b := A) (by omega) (by omega) h
  have pb := fun p (h : p < C.length) => plc_get (a := C) (b := B) (by omega) (by omega) h
  have la := plc_len C A
  have lb := plc_len C B
  refine enter (F := f10) rfl rfl ?_
  simp only [f10, ex,reduceIte,reduceCtorEq,Nat.reduceEqDiff,Nat.reduceLT,Nat.reduceLeDiff,Nat.reduceAdd,Nat.reduceSub,Nat.reduceMul,Int.reduceAdd,Int.reduceSub,Int.reduceMul,Int.reduceNeg,Int.reduceLE,Int.reduceLT,Int.reduceEq,Int.reduceToNat]
  (try simp only [ex,reduceIte,reduceCtorEq,Nat.reduceEqDiff,Nat.reduceLT,Nat.reduceLeDiff,Nat.reduceAdd,Nat.reduceSub,Nat.reduceMul,Int.reduceAdd,Int.reduceSub,Int.reduceMul,Int.reduceNeg,Int.reduceLE,Int.reduceLT,Int.reduceEq,Int.reduceToNat]) <;> repeat ((with_reducible refine Req.intro ?_ ?_); (first | omega | (simp <;> omega)); try simp only [ex,reduceIte,reduceCtorEq,Nat.reduceEqDiff,Nat.reduceLT,Nat.reduceLeDiff,Nat.reduceAdd,Nat.reduceSub,Nat.reduceMul,Int.reduceAdd,Int.reduceSub,Int.reduceMul,Int.reduceNeg,Int.reduceLE,Int.reduceLT,Int.reduceEq,Int.reduceToNat])
  refine CallA.eq rfl (places1_spec _ _ C A hc ha) rfl ?_
  (try simp only [ex,reduceIte,reduceCtorEq,Nat.reduceEqDiff,Nat.reduceLT,Nat.reduceLeDiff,Nat.reduceAdd,Nat.reduceSub,Nat.reduceMul,Int.reduceAdd,Int.reduceSub,Int.reduceMul,Int.reduceNeg,Int.reduceLE,Int.reduceLT,Int.reduceEq,Int.reduceToNat]) <;> repeat ((with_reducible refine Req.intro ?_ ?_); (first | omega | (simp <;> omega)); try simp only [ex,reduceIte,reduceCtorEq,Nat.reduceEqDiff,Nat.reduceLT,Nat.reduceLeDiff,Nat.reduceAdd,Nat.reduceSub,Nat.reduceMul,Int.reduceAdd,Int.reduceSub,Int.reduceMul,Int.reduceNeg,Int.reduceLE,Int.reduceLT,Int.reduceEq,Int.reduceToNat])
  refine CallA.eq rfl (places1_spec _ _ C B hc hb) rfl ?_
  generalize plc C A = X at *
  generalize plc C B = Y at *
  unfold mrg
  generalize hres : mrgG C A B C.length 0 0 0 0 [] = res
  (try simp only [ex,reduceIte,reduceCtorEq,Nat.reduceEqDiff,Nat.reduceLT,Nat.reduceLeDiff,Nat.reduceAdd,Nat.reduceSub,Nat.reduceMul,Int.reduceAdd,Int.reduceSub,Int.reduceMul,Int.reduceNeg,Int.reduceLE,Int.reduceLT,Int.reduceEq,Int.reduceToNat]) <;> repeat ((with_reducible refine Req.intro ?_ ?_); (first | omega | (simp <;> omega)); try simp only [ex,reduceIte,reduceCtorEq,Nat.reduceEqDiff,Nat.reduceLT,Nat.reduceLeDiff,Nat.reduceAdd,Nat.reduceSub,Nat.reduceMul,Int.reduceAdd,Int.reduceSub,Int.reduceMul,Int.reduceNeg,Int.reduceLE,Int.reduceLT,Int.reduceEq,Int.reduceToNat])
  refine loopI fun L hL => ?_
  (try simp only [ex,reduceIte,reduceCtorEq,Nat.reduceEqDiff,Nat.reduceLT,Nat.reduceLeDiff,Nat.reduceAdd,Nat.reduceSub,Nat.reduceMul,Int.reduceAdd,Int.reduceSub,Int.reduceMul,Int.reduceNeg,Int.reduceLE,Int.reduceLT,Int.reduceEq,Int.reduceToNat]) <;> repeat ((with_reducible refine Req.intro ?_ ?_); (first | omega | (simp <;> omega)); try simp only [ex,reduceIte,reduceCtorEq,Nat.reduceEqDiff,Nat.reduceLT,Nat.reduceLeDiff,Nat.reduceAdd,Nat.reduceSub,Nat.reduceMul,Int.reduceAdd,Int.reduceSub,Int.reduceMul,Int.reduceNeg,Int.reduceLE,Int.reduceLT,Int.reduceEq,Int.reduceToNat])
  have key : ∀ (m p i j k n : Nat) (rs : List Rg) (h : Heap), p + m = C.length → MOk C A B p i j k rs → Row h n 0 rs → mrgG C A B m p i j k rs = res →
      L (L10_1 (.sl o1 1 (C.map .str)) (.sl o2 1 (A.map .str)) (.sl o3 1 (B.map .str)) (.sl false 1 (iL X)) (.sl false 1 (iL Y)) (.ptr 0 1 0 0) (.int .i64 i) (.int .i64 j) (.int .i64 k) (.int .i64 C.length) (.int .i64 p) h n) := by
    intro m
    induction m with
    | zero =>
      intro p i j k n rs h hp hM hR he
      have k1 : decide ((p : Int) < (C.length : Int)) = false := by simp; omega
      rw [mrgG] at he
      have m1 := hM.ip
      have m2 := hM.jl
      have m3 := hM.kl
      apply hL
      simp only [L10_1, l10_1, ex,reduceIte,reduceCtorEq,Nat.reduceEqDiff,Nat.reduceLT,Nat.reduceLeDiff,Nat.reduceAdd,Nat.reduceSub,Nat.reduceMul,Int.reduceAdd,Int.reduceSub,Int.reduceMul,Int.reduceNeg,Int.reduceLE,Int.reduceLT,Int.reduceEq,Int.reduceToNat]
      (try simp only [k1, ex,reduceIte,reduceCtorEq,Nat.reduceEqDiff,Nat.reduceLT,Nat.reduceLeDiff,Nat.reduceAdd,Nat.reduceSub,Nat.reduceMul,Int.reduceAdd,Int.reduceSub,Int.reduceMul,Int.reduceNeg,Int.reduceLE,Int.reduceLT,Int.reduceEq,Int.reduceToNat]) <;> repeat ((with_reducible refine Req.intro ?_ ?_); (first | omega | (simp <;> omega)); try simp only [k1, ex,reduceIte,reduceCtorEq,Nat.reduceEqDiff,Nat.reduceLT,Nat.reduceLeDiff,Nat.reduceAdd,Nat.reduceSub,Nat.reduceMul,Int.reduceAdd,Int.reduceSub,Int.reduceMul,Int.reduceNeg,Int.reduceLE,Int.reduceLT,Int.reduceEq,Int.reduceToNat])
      refine CallHD.any (row_region _ _ _ rs (C.drop i) (A.drop j) (B.drop k) h n 0 _ hM.sz (by simp only [List.length_drop]; omega) hR) ?_
      intro r h1 n1 hh
      have y1 := hh.2.1
      have y2 := hh.2.2
      clear hh
      rw [he] at y1
      have hn1 : n + (n1 - n) = n1 := by omega
      (try simp only [hn1, ex,reduceIte,reduceCtorEq,Nat.reduceEqDiff,Nat.reduceLT,Nat.reduceLeDiff,Nat.reduceAdd,Nat.reduceSub,Nat.reduceMul,Int.reduceAdd,Int.reduceSub,Int.reduceMul,Int.reduceNeg,Int.reduceLE,Int.reduceLT,Int.reduceEq,Int.reduceToNat]) <;> repeat ((with_reducible refine Req.intro ?_ ?_); (first | omega | (simp <;> omega)); try simp only [hn1, ex,reduceIte,reduceCtorEq,Nat.reduceEqDiff,Nat.reduceLT,Nat.reduceLeDiff,Nat.reduceAdd,Nat.reduceSub,Nat.reduceMul,Int.reduceAdd,Int.reduceSub,Int.reduceMul,Int.reduceNeg,Int.reduceLE,Int.reduceLT,Int.reduceEq,Int.reduceToNat])
      obtain ⟨q1, q2, q3⟩ := y1
      rcases q3 with ⟨e2, e3⟩ | ⟨c, c1, c2, c3, e3, e4⟩
      · (try simp only [e3, frz_nil, ex,reduceIte,reduceCtorEq,Nat.reduceEqDiff,Nat.reduceLT,Nat.reduceLeDiff,Nat.reduceAdd,Nat.reduceSub,Nat.reduceMul,Int.reduceAdd,Int.reduceSub,Int.reduceMul,Int.reduceNeg,Int.reduceLE,Int.reduceLT,Int.reduceEq,Int.reduceToNat]) <;> repeat ((with_reducible refine Req.intro ?_ ?_); (first | omega | (simp <;> omega)); try simp only [e3, frz_nil, ex,reduceIte,reduceCtorEq,Nat.reduceEqDiff,Nat.reduceLT,Nat.reduceLeDiff,Nat.reduceAdd,Nat.reduceSub,Nat.reduceMul,Int.reduceAdd,Int.reduceSub,Int.reduceMul,Int.reduceNeg,Int.reduceLE,Int.reduceLT,Int.reduceEq,Int.reduceToNat])
        rw [e2]
        rfl
      · (try simp only [e3, frz_rs e4, ex,reduceIte,reduceCtorEq,Nat.reduceEqDiff,Nat.reduceLT,Nat.reduceLeDiff,Nat.reduceAdd,Nat.reduceSub,Nat.reduceMul,Int.reduceAdd,Int.reduceSub,Int.reduceMul,Int.reduceNeg,Int.reduceLE,Int.reduceLT,Int.reduceEq,Int.reduceToNat]) <;> repeat ((with_reducible refine Req.intro ?_ ?_); (first | omega | (simp <;> omega)); try simp only [e3, frz_rs e4, ex,reduceIte,reduceCtorEq,Nat.reduceEqDiff,Nat.reduceLT,Nat.reduceLeDiff,Nat.reduceAdd,Nat.reduceSub,Nat.reduceMul,Int.reduceAdd,Int.reduceSub,Int.reduceMul,Int.reduceNeg,Int.reduceLE,Int.reduceLT,Int.reduceEq,Int.reduceToNat])
    | succ m ih =>
      intro p i j k n rs h hp hM hR he
      have k1 : decide ((p : Int) < (C.length : Int)) = true := by simp; omega
      have g1 : X[p]? = some (plF C A p) := pa p (by omega)
      have g2 : Y[p]? = some (plF C B p) := pb p (by omega)
      have w1 : (iL X)[p]? = some (.int .i64 (plF C A p)) := by unfold iL; rw [List.getElem?_map, g1]; rfl
      have w2 : (iL Y)[p]? = some (.int .i64 (plF C B p)) := by unfold iL; rw [List.getElem?_map, g2]; rfl
      rw [mrgG] at he
      rcases Classical.em (plF C A p < 0) with c1 | c1
      · have d1 : decide (plF C A p < 0) = true := decide_eq_true c1
        rw [if_pos (.inl c1)] at he
        have h9 := fun n => ih (p + 1) i j k n rs h (by omega) hM.skip
        generalize plF C A p = u at *
        generalize plF C B p = v at *
        apply hL
        simp only [L10_1, l10_1, ex,reduceIte,reduceCtorEq,Nat.reduceEqDiff,Nat.reduceLT,Nat.reduceLeDiff,Nat.reduceAdd,Nat.reduceSub,Nat.reduceMul,Int.reduceAdd,Int.reduceSub,Int.reduceMul,Int.reduceNeg,Int.reduceLE,Int.reduceLT,Int.reduceEq,Int.reduceToNat]
        (try simp only [k1, w1, w2, d1, ex,reduceIte,reduceCtorEq,Nat.reduceEqDiff,Nat.reduceLT,Nat.reduceLeDiff,Nat.reduceAdd,Nat.reduceSub,Nat.reduceMul,Int.reduceAdd,Int.reduceSub,Int.reduceMul,Int.reduceNeg,Int.reduceLE,Int.reduceLT,Int.reduceEq,Int.reduceToNat]) <;> repeat ((with_reducible refine Req.intro ?_ ?_); (first | omega | (simp <;> omega)); try simp only [k1, w1, w2, d1, ex,reduceIte,reduceCtorEq,Nat.reduceEqDiff,Nat.reduceLT,Nat.reduceLeDiff,Nat.reduceAdd,Nat.reduceSub,Nat.reduceMul,Int.reduceAdd,Int.reduceSub,Int.reduceMul,Int.reduceNeg,Int.reduceLE,Int.reduceLT,Int.reduceEq,Int.reduceToNat])
        exact h9 n hR he
      · have d1 : decide (plF C A p < 0) = false := decide_eq_false c1
        rcases Classical.em (plF C B p < 0) with c2 | c2
        · have d2 : decide (plF C B p < 0) = true := decide_eq_true c2
          rw [if_pos (.inr c2)] at he
          have h9 := ih (p + 1) i j k n rs h (by omega) hM.skip hR he
          clear he
          generalize plF C A p = u at *
          generalize plF C B p = v at *
          apply hL
          simp only [L10_1, l10_1, ex,reduceIte,reduceCtorEq,Nat.reduceEqDiff,Nat.reduceLT,Nat.reduceLeDiff,Nat.reduceAdd,Nat.reduceSub,Nat.reduceMul,Int.reduceAdd,Int.reduceSub,Int.reduceMul,Int.reduceNeg,Int.reduceLE,Int.reduceLT,Int.reduceEq,Int.reduceToNat]
          (try simp only [k1, w1, w2, d1, d2, ex,reduceIte,reduceCtorEq,Nat.reduceEqDiff,Nat.reduceLT,Nat.reduceLeDiff,Nat.reduceAdd,Nat.reduceSub,Nat.reduceMul,Int.reduceAdd,Int.reduceSub,Int.reduceMul,Int.reduceNeg,Int.reduceLE,Int.reduceLT,Int.reduceEq,Int.reduceToNat]) <;> repeat ((with_reducible refine Req.intro ?_ ?_); (first | omega | (simp <;> omega)); try simp only [k1, w1, w2, d1, d2, ex,reduceIte,reduceCtorEq,Nat.reduceEqDiff,Nat.reduceLT,Nat.reduceLeDiff,Nat.reduceAdd,Nat.reduceSub,Nat.reduceMul,Int.reduceAdd,Int.reduceSub,Int.reduceMul,Int.reduceNeg,Int.reduceLE,Int.reduceLT,Int.reduceEq,Int.reduceToNat])
          exact h9
        · have d2 : decide (plF C B p < 0) = false := decide_eq_false c2
          rw [if_neg (fun q => q.elim c1 c2)] at he
          obtain ⟨u, hu⟩ : ∃ u : Nat, plF C A p = u := ⟨(plF C A p).toNat, by omega⟩
          obtain ⟨v, hv⟩ : ∃ v : Nat, plF C B p = v := ⟨(plF C B p).toNat, by omega⟩
          obtain ⟨s1, s2, s3, s4, s5, s6, s7⟩ := hM.step hc ha hb hu hv
          have m1 := hM.ip
          have h9 := fun n h hR => ih (p + 1) (p + 1) (u + 1) (v + 1) n _ h (by omega) s7 hR (by rw [hu, hv, Int.toNat_natCast, Int.toNat_natCast] at he; exact he)
          have z1 := one_drop C p
          have rr := fun o1 o2 o3 => row_region o1 o2 o3 rs ((C.take p).drop i) ((A.take u).drop j) ((B.take v).drop k) h n 0 _ hM.sz (by simp only [List.length_drop, List.length_take]; omega) hR
          generalize regC rs ((C.take p).drop i) ((A.take u).drop j) ((B.take v).drop k) = R1 at *
          have rc := fun o h n hR => row_clean o R1 ((C.take (p + 1)).drop p) h n 0 (s6.ok (by omega)) (by omega) hR
          generalize addC R1 ((C.take (p + 1)).drop p) = R2 at *
          rw [hu] at w1 d1
          rw [hv] at w2 d2
          have t1 : ((p : Int) + 1).toNat = p + 1 := by omega
          clear he
          apply hL
          simp only [L10_1, l10_1, ex,reduceIte,reduceCtorEq,Nat.reduceEqDiff,Nat.reduceLT,Nat.reduceLeDiff,Nat.reduceAdd,Nat.reduceSub,Nat.reduceMul,Int.reduceAdd,Int.reduceSub,Int.reduceMul,Int.reduceNeg,Int.reduceLE,Int.reduceLT,Int.reduceEq,Int.reduceToNat]
          (try simp only [k1, w1, w2, d1, d2, t1, ex,reduceIte,reduceCtorEq,Nat.reduceEqDiff,Nat.reduceLT,Nat.reduceLeDiff,Nat.reduceAdd,Nat.reduceSub,Nat.reduceMul,Int.reduceAdd,Int.reduceSub,Int.reduceMul,Int.reduceNeg,Int.reduceLE,Int.reduceLT,Int.reduceEq,Int.reduceToNat]) <;> repeat ((with_reducible refine Req.intro ?_ ?_); (first | omega | (simp <;> omega)); try simp only [k1, w1, w2, d1, d2, t1, ex,reduceIte,reduceCtorEq,Nat.reduceEqDiff,Nat.reduceLT,Nat.reduceLeDiff,Nat.reduceAdd,Nat.reduceSub,Nat.reduceMul,Int.reduceAdd,Int.reduceSub,Int.reduceMul,Int.reduceNeg,Int.reduceLE,Int.reduceLT,Int.reduceEq,Int.reduceToNat])
          refine CallHD.any (rr _ _ _) ?_
          intro r h1 n1 hh
          have y1 := hh.2.1
          have y2 := hh.2.2
          clear hh
          have hn1 : n + (n1 - n) = n1 := by omega
          (try simp only [hn1, t1, ex,reduceIte,reduceCtorEq,Nat.reduceEqDiff,Nat.reduceLT,Nat.reduceLeDiff,Nat.reduceAdd,Nat.reduceSub,Nat.reduceMul,Int.reduceAdd,Int.reduceSub,Int.reduceMul,Int.reduceNeg,Int.reduceLE,Int.reduceLT,Int.reduceEq,Int.reduceToNat]) <;> repeat ((with_reducible refine Req.intro ?_ ?_); (first | omega | (simp <;> omega)); try simp only [hn1, t1, ex,reduceIte,reduceCtorEq,Nat.reduceEqDiff,Nat.reduceLT,Nat.reduceLeDiff,Nat.reduceAdd,Nat.reduceSub,Nat.reduceMul,Int.reduceAdd,Int.reduceSub,Int.reduceMul,Int.reduceNeg,Int.reduceLE,Int.reduceLT,Int.reduceEq,Int.reduceToNat])
          refine CallH.any (rc _ h1 n1 y1) ?_
          intro r2 h2 n2 hh
          have y3 := hh.2.1
          have y4 := hh.2.2
          clear hh
          have hn2 : n1 + (n2 - n1) = n2 := by omega
          (try simp only [hn2, k1, w1, w2, ex,reduceIte,reduceCtorEq,Nat.reduceEqDiff,Nat.reduceLT,Nat.reduceLeDiff,Nat.reduceAdd,Nat.reduceSub,Nat.reduceMul,Int.reduceAdd,Int.reduceSub,Int.reduceMul,Int.reduceNeg,Int.reduceLE,Int.reduceLT,Int.reduceEq,Int.reduceToNat]) <;> repeat ((with_reducible refine Req.intro ?_ ?_); (first | omega | (simp <;> omega)); try simp only [hn2, k1, w1, w2, ex,reduceIte,reduceCtorEq,Nat.reduceEqDiff,Nat.reduceLT,Nat.reduceLeDiff,Nat.reduceAdd,Nat.reduceSub,Nat.reduceMul,Int.reduceAdd,Int.reduceSub,Int.reduceMul,Int.reduceNeg,Int.reduceLE,Int.reduceLT,Int.reduceEq,Int.reduceToNat])
          exact h9 n2 h2 y3
  refine key C.length 0 0 0 0 1 [] _ (Nat.zero_add _) (MOk.zero C A B) ⟨by omega, fun k hk => ?_, .inl ⟨rfl, rfl⟩⟩ hres
  rw [get_cons, if_neg (by omega)]
  rfl
end Go.Proofs.Ytnodepfoahmcmaa.E.Hs

/- Chapter 12: the law ThreeMerges. Conditions: none. -/
namespace Go.Proofs.Ytnodepfoahmcmaa.E.Hs
set_option linter.unusedVariables false
set_option linter.unusedSimpArgs false
set_option maxHeartbeats 20000000
set_option maxRecDepth 100000

theorem mrgG_ok {C A B : List Sx} (hc : C.length ≤ 1000) (ha : A.length ≤ 1000) (hb : B.length ≤ 1000) : ∀ (m p i j k : Nat) (rs : List Rg), p + m = C.length → MOk C A B p i j k rs → SzL 10000 (mrgG C A B m p i j k rs)
  | 0, p, i, j, k, rs, hp, h => by
    rw [mrgG]
    have m1 := h.ip
    have m2 := h.jl
    have m3 := h.kl
    exact szl_reg h.sz (by simp only [List.length_drop]; omega)
  | m + 1, p, i, j, k, rs, hp, h => by
    rw [mrgG]
    split
    · exact mrgG_ok hc ha hb m (p + 1) i j k rs (by omega) h.skip
    · rename_i c
      have c1 : ¬ plF C A p < 0 := fun q => c (.inl q)
      have c2 : ¬ plF C B p < 0 := fun q => c (.inr q)
      obtain ⟨u, hu⟩ : ∃ u : Nat, plF C A p = u := ⟨(plF C A p).toNat, by omega⟩
      obtain ⟨v, hv⟩ : ∃ v : Nat, plF C B p = v := ⟨(plF C B p).toNat, by omega⟩
      have s := h.step hc ha hb hu hv
      rw [hu, hv, Int.toNat_natCast, Int.toNat_natCast]
      exact mrgG_ok hc ha hb m (p + 1) _ _ _ _ (by omega) s.2.2.2.2.2.2
theorem mrg_ok {C A B : List Sx} (hc : C.length ≤ 1000) (ha : A.length ≤ 1000) (hb : B.length ≤ 1000) : OkR (mrg C A B) :=
  (mrgG_ok hc ha hb C.length 0 0 0 0 [] (Nat.zero_add _) (MOk.zero C A B)).ok (Nat.le_refl _)
end Go.Proofs.Ytnodepfoahmcmaa.E.Hs

/- Chapter 12: the sides of a merge exchanged; merges that are clean. Plain. Conditions: none. -/
namespace Go.Proofs.Ytnodepfoahmcmaa.E.Hs
set_option linter.unusedVariables false
set_option linter.unusedSimpArgs false
set_option maxHeartbeats 2000000
set_option maxRecDepth 100000

/-- Ours and theirs exchanged. -/
def sw (r : Rg) : Rg := ⟨r.k, r.l, r.t, r.b, r.o⟩
theorem lcp_comm : ∀ a b : List Sx, lcp a b = lcp b a
  | [], [] => rfl
  | [], _ :: _ => rfl
  | _ :: _, [] => rfl
  | x :: a, y :: b => by
    rw [lcp, lcp, lcp_comm a b]
    by_cases e : x = y
    · rw [if_pos e, if_pos e.symm]
    · rw [if_neg e, if_neg fun q => e q.symm]
theorem take_lcp : ∀ a b : List Sx, a.take (lcp a b) = b.take (lcp a b)
  | [], [] => rfl
  | [], _ :: _ => rfl
  | _ :: _, [] => rfl
  | x :: a, y :: b => by
    rw [lcp]
    by_cases e : x = y
    · rw [if_pos e, List.take_succ_cons, List.take_succ_cons, take_lcp a b, e]
    · rw [if_neg e]; rfl
theorem drop_lsf (a b : List Sx) : a.drop (a.length - lsf a b) = b.drop (b.length - lsf a b) := by
  have h := take_lcp a.reverse b.reverse
  have h1 := (lcp_le a.reverse b.reverse).1
  have h2 := (lcp_le a.reverse b.reverse).2
  rw [List.length_reverse] at h1 h2
  have e : ∀ (l : List Sx) (m : Nat), m ≤ l.length → l.drop (l.length - m) = (l.reverse.take m).reverse := fun l m hm => by
    rw [List.reverse_take, List.reverse_reverse, List.length_reverse]
  unfold lsf
  rw [e a _ h1, e b _ h2, h]
theorem addC_sw (rs : List Rg) (l : List Sx) : addC (rs.map sw) l = (addC rs l).map sw := by
  rcases Classical.em (l = []) with e | e
  · subst e; simp [addC]
  · rcases List.eq_nil_or_concat rs with q | ⟨qs, r, q⟩
    · subst q; simp [addC, e, sw]
    · rw [List.concat_eq_append] at q
      subst q
      rcases Classical.em (r.k = 1) with c | c
      · simp [addC, e, c, sw]
      · simp [addC, e, c, sw]
theorem cfl_sw (rs : List Rg) (b o t : List Sx) : cfl (rs.map sw) b t o = (cfl rs b o t).map sw := by
  unfold cfl
  rw [show lsf t o = lsf o t from lcp_comm _ _, ← drop_lsf o t]
  rw [show rs.map sw ++ [Rg.mk 2 [] (t.take (t.length - lsf o t)) b (o.take (o.length - lsf o t))] = (rs ++ [Rg.mk 2 [] (o.take (o.length - lsf o t)) b (t.take (t.length - lsf o t))]).map sw by rw [List.map_append]; rfl, addC_sw]
theorem regC_sw (rs : List Rg) (b o t : List Sx) : regC (rs.map sw) b t o = (regC rs b o t).map sw := by
  unfold regC
  by_cases e1 : o = b
  · rw [if_pos e1]
    by_cases e2 : t = b
    · rw [if_pos e2, e1, e2, addC_sw]
    · rw [if_neg e2, if_pos (.inl e1), addC_sw]
  · rw [if_neg e1]
    by_cases e2 : t = b
    · rw [if_pos e2, if_pos (.inl e2), addC_sw]
    · rw [if_neg e2]
      by_cases e3 : o = t
      · rw [if_pos (.inr e3.symm), if_pos (.inr e3), e3, addC_sw]
      · rw [if_neg (fun q => q.elim e1 fun q => e3 q.symm), if_neg (fun q => q.elim e2 e3), lcp_comm t o, ← take_lcp o t, addC_sw, cfl_sw]
theorem mrgG_sw (C A B : List Sx) : ∀ (m p i j k : Nat) (rs : List Rg), mrgG C B A m p i k j (rs.map sw) = (mrgG C A B m p i j k rs).map sw
  | 0, p, i, j, k, rs => by rw [mrgG, mrgG, regC_sw]
  | m + 1, p, i, j, k, rs => by
    rw [mrgG, mrgG]
    by_cases c : plF C A p < 0 ∨ plF C B p < 0
    · rw [if_pos c, if_pos (Or.comm.1 c)]
      exact mrgG_sw C A B m (p + 1) i j k rs
    · rw [if_neg c, if_neg (fun q => c (Or.comm.1 q)), regC_sw, addC_sw]
      exact mrgG_sw C A B m (p + 1) _ _ _ _
theorem mrg_sw (C A B : List Sx) : mrg C B A = (mrg C A B).map sw := mrgG_sw C A B C.length 0 0 0 0 []

/-- No conflicts, and these lines. -/
def Cat (rs : List Rg) (l : List Sx) : Prop := (∀ r ∈ rs, r.k ≠ 2) ∧ rs.flatMap (fun r => r.l) = l
theorem Cat.addC {rs : List Rg} {l : List Sx} (h : Cat rs l) (x : List Sx) : Cat (addC rs x) (l ++ x) := by
  rcases Classical.em (x = []) with e | e
  · subst e
    have : Hs.addC rs [] = rs := by simp [Hs.addC]
    rw [this, List.append_nil]; exact h
  · rcases addC_step rs x e with ⟨e2, q⟩ | ⟨qs, r, e2, ⟨c, q⟩ | ⟨c, q⟩⟩
    · rw [q]
      subst e2
      have := h.2
      exact ⟨by simp, by rw [← this]; simp⟩
    · rw [q]
      subst e2
      have h1 := h.1
      have h2 := h.2
      refine ⟨fun y hy => ?_, by rw [← h2]; simp⟩
      rcases List.mem_append.1 hy with hy | hy
      · exact h1 y (by simp [hy])
      · rw [List.mem_singleton.1 hy]; simp [c]
    · rw [q]
      subst e2
      have h1 := h.1
      have h2 := h.2
      refine ⟨fun y hy => ?_, by rw [← h2]; simp⟩
      rcases List.mem_append.1 hy with hy | hy
      · exact h1 y hy
      · rw [List.mem_singleton.1 hy]; simp
theorem Cat.cl {rs : List Rg} {l : List Sx} (h : Cat rs l) : isCl rs = true := by
  unfold isCl
  rw [show rs.any (fun r => decide (r.k = 2)) = false from List.any_eq_false.2 fun r hr => by simp [h.1 r hr]]
  rfl
theorem Cat.lines {rs : List Rg} {l : List Sx} (h : Cat rs l) (s : Int) : linesR s rs = l := by
  unfold linesR
  generalize (decide (s = 1) || decide (s = 3)) = x
  generalize (decide (s = 2) || decide (s = 3)) = y
  rw [← h.2]
  have h1 := h.1
  clear h
  induction rs with
  | nil => rfl
  | cons r rs ih =>
    have := ih (fun z hz => h1 z (by simp [hz]))
    unfold lnR at *
    rw [List.flatMap_cons, List.flatMap_cons, this]
    congr 1
    unfold rgL
    rw [if_neg (h1 r (by simp))]
theorem lcs_self : ∀ a : List Sx, lcs a a = a.length
  | [] => lcs_nil []
  | x :: a => by rw [lcs_same, lcs_self a]; rfl
theorem Com.sum {a b : List Sx} : ∀ {l : List Rn} {i j : Nat}, Com a b l i j → sumN l + i ≤ a.length ∧ sumN l + j ≤ b.length
  | [], i, j, h => by unfold Com at h; simpa [sumN] using h
  | r :: l, i, j, h => by
    obtain ⟨q1, q2, q3, q4, q5⟩ := h
    have := Com.sum q5
    have e : sumN (r :: l) = r.N + sumN l := by simp [sumN]
    omega
theorem Com.same {a : List Sx} : ∀ {l : List Rn} {i p : Nat}, Com a a l i i → sumN l + i = a.length → i ≤ p → p < a.length → plcF l p = p
  | [], i, p, h, hs, hi, hp => by simp [sumN] at hs; omega
  | r :: l, i, p, h, hs, hi, hp => by
    obtain ⟨q1, q2, q3, q4, q5⟩ := h
    have := Com.sum q5
    have e : sumN (r :: l) = r.N + sumN l := by simp [sumN]
    have e1 : r.A = i := by omega
    have e2 : r.B = i := by omega
    rw [plcF]
    split
    · omega
    · rename_i c
      rw [e1, e2] at q5
      exact Com.same q5 (by omega) (by omega) hp
theorem plF_self {C : List Sx} (hc : C.length ≤ 4096) {p : Nat} (hp : p < C.length) : plF C C p = p := by
  have h := leastRn_com C C hc hc
  exact Com.same h.1 (by rw [h.2, lcs_self]; rfl) (Nat.zero_le _) hp
theorem drop_take_join (l : List Sx) (k v : Nat) (h : k ≤ v) : l.take k ++ (l.take v).drop k = l.take v := by
  have := List.take_append_drop k (l.take v)
  rw [List.take_take, Nat.min_eq_left h] at this
  exact this
/-- The first side is base: the other side is what comes. -/
theorem mrg_ours {C B : List Sx} (hc : C.length ≤ 1000) (hb : B.length ≤ 1000) : ∀ (m p i k : Nat) (rs : List Rg), p + m = C.length → MOk C C B p i i k rs → Cat rs (B.take k) → Cat (mrgG C C B m p i i k rs) B
  | 0, p, i, k, rs, hp, hM, h => by
    rw [mrgG]
    unfold regC
    rw [if_pos rfl]
    have := h.addC (B.drop k)
    rw [List.take_append_drop] at this
    exact this
  | m + 1, p, i, k, rs, hp, hM, h => by
    have e := plF_self (C := C) (by omega) (p := p) (by omega)
    rw [mrgG]
    by_cases c : plF C B p < 0
    · rw [if_pos (.inr c)]
      exact mrg_ours hc hb m (p + 1) i k rs (by omega) hM.skip h
    · rw [if_neg (fun q => q.elim (fun q => by omega) c)]
      obtain ⟨v, hv⟩ : ∃ v : Nat, plF C B p = v := ⟨(plF C B p).toNat, by omega⟩
      have s := hM.step hc hc hb e hv
      have f := plF_at (a := C) (b := B) (by omega) (by omega) (p := p) (by omega)
      rw [e, hv, Int.toNat_natCast, Int.toNat_natCast] at *
      refine mrg_ours hc hb m (p + 1) (p + 1) (v + 1) _ (by omega) s.2.2.2.2.2.2 ?_
      unfold regC
      rw [if_pos rfl]
      have h2 := (h.addC ((B.take v).drop k)).addC ((C.take (p + 1)).drop p)
      rw [drop_take_join B k v s.2.1] at h2
      have h3 : (C.take (p + 1)).drop p = (B.take (v + 1)).drop v := by
        have g1 : C[p]? = some (C[p]'(by omega)) := List.getElem?_eq_getElem _
        rw [List.take_add_one, List.take_add_one, ← f.2.2, List.drop_append_of_le_length (by simp; omega), List.drop_append_of_le_length (by simp; omega), List.drop_of_length_le (by simp; omega), List.drop_of_length_le (by simp; omega)]
      rw [h3]
      rw [h3, drop_take_join B v (v + 1) (by omega)] at h2
      exact h2
theorem regC_t (rs : List Rg) (b o : List Sx) : regC rs b o b = addC rs o := by
  unfold regC
  by_cases e : o = b
  · rw [if_pos e, e]
  · rw [if_neg e, if_pos (.inl rfl)]
theorem regC_same (rs : List Rg) (b o : List Sx) : regC rs b o o = addC rs o := by
  unfold regC
  by_cases e : o = b
  · rw [if_pos e]
  · rw [if_neg e, if_pos (.inr rfl)]
theorem line_eq {C A : List Sx} (hc : C.length ≤ 4096) (ha : A.length ≤ 4096) {p u : Nat} (h : plF C A p = u) : (C.take (p + 1)).drop p = (A.take (u + 1)).drop u := by
  have f := plF_at (a := C) (b := A) hc ha (p := p) (by omega)
  rw [h, Int.toNat_natCast] at f
  have g1 : C[p]? = some (C[p]'(by omega)) := List.getElem?_eq_getElem _
  rw [List.take_add_one, List.take_add_one, ← f.2.2, List.drop_append_of_le_length (by simp; omega), List.drop_append_of_le_length (by simp; omega), List.drop_of_length_le (by simp; omega), List.drop_of_length_le (by simp; omega)]
theorem mrg_theirs {C A : List Sx} (hc : C.length ≤ 1000) (ha : A.length ≤ 1000) : ∀ (m p i j : Nat) (rs : List Rg), p + m = C.length → MOk C A C p i j i rs → Cat rs (A.take j) → Cat (mrgG C A C m p i j i rs) A
  | 0, p, i, j, rs, hp, hM, h => by
    rw [mrgG, regC_t]
    have := h.addC (A.drop j)
    rw [List.take_append_drop] at this
    exact this
  | m + 1, p, i, j, rs, hp, hM, h => by
    have e := plF_self (C := C) (by omega) (p := p) (by omega)
    rw [mrgG]
    by_cases c : plF C A p < 0
    · rw [if_pos (.inl c)]
      exact mrg_theirs hc ha m (p + 1) i j rs (by omega) hM.skip h
    · rw [if_neg (fun q => q.elim c (fun q => by omega))]
      obtain ⟨u, hu⟩ : ∃ u : Nat, plF C A p = u := ⟨(plF C A p).toNat, by omega⟩
      have s := hM.step hc ha hc hu e
      have l := line_eq (C := C) (A := A) (by omega) (by omega) hu
      rw [e, hu, Int.toNat_natCast, Int.toNat_natCast] at *
      refine mrg_theirs hc ha m (p + 1) (p + 1) (u + 1) _ (by omega) s.2.2.2.2.2.2 ?_
      rw [regC_t, l]
      have h2 := (h.addC ((A.take u).drop j)).addC ((A.take (u + 1)).drop u)
      rw [drop_take_join A j u s.1, drop_take_join A u (u + 1) (by omega)] at h2
      exact h2
theorem mrg_both {C A : List Sx} (hc : C.length ≤ 1000) (ha : A.length ≤ 1000) : ∀ (m p i j : Nat) (rs : List Rg), p + m = C.length → MOk C A A p i j j rs → Cat rs (A.take j) → Cat (mrgG C A A m p i j j rs) A
  | 0, p, i, j, rs, hp, hM, h => by
    rw [mrgG, regC_same]
    have := h.addC (A.drop j)
    rw [List.take_append_drop] at this
    exact this
  | m + 1, p, i, j, rs, hp, hM, h => by
    rw [mrgG]
    by_cases c : plF C A p < 0
    · rw [if_pos (.inl c)]
      exact mrg_both hc ha m (p + 1) i j rs (by omega) hM.skip h
    · rw [if_neg (fun q => q.elim c c)]
      obtain ⟨u, hu⟩ : ∃ u : Nat, plF C A p = u := ⟨(plF C A p).toNat, by omega⟩
      have s := hM.step hc ha ha hu hu
      have l := line_eq (C := C) (A := A) (by omega) (by omega) hu
      rw [hu, Int.toNat_natCast] at *
      refine mrg_both hc ha m (p + 1) (p + 1) (u + 1) _ (by omega) s.2.2.2.2.2.2 ?_
      rw [regC_same, l]
      have h2 := (h.addC ((A.take u).drop j)).addC ((A.take (u + 1)).drop u)
      rw [drop_take_join A j u s.1, drop_take_join A u (u + 1) (by omega)] at h2
      exact h2
theorem cat_nil : Cat [] [] := ⟨by simp, rfl⟩
theorem cat_x {C B : List Sx} (hc : C.length ≤ 1000) (hb : B.length ≤ 1000) : Cat (mrg C C B) B := mrg_ours hc hb _ 0 0 0 [] (Nat.zero_add _) (MOk.zero C C B) cat_nil
theorem cat_y {C A : List Sx} (hc : C.length ≤ 1000) (ha : A.length ≤ 1000) : Cat (mrg C A C) A := mrg_theirs hc ha _ 0 0 0 [] (Nat.zero_add _) (MOk.zero C A C) cat_nil
theorem cat_z {C A : List Sx} (hc : C.length ≤ 1000) (ha : A.length ≤ 1000) : Cat (mrg C A A) A := mrg_both hc ha _ 0 0 0 [] (Nat.zero_add _) (MOk.zero C A A) cat_nil
end Go.Proofs.Ytnodepfoahmcmaa.E.Hs
