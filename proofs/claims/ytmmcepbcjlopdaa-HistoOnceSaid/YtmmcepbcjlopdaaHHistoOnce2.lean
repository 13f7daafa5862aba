/- What the functions compute, and the law HistoOnce in plain lists: part 2. Conditions: none. -/
import Derived.KernelRfl
import Derived.Test.YtmmcepbcjlopdaaHHistoOnce1
/- Equal scripts: graftagelaw09.Same; graftageref09.moved. Conditions: none. -/
namespace Go.Proofs.Ytmmcepbcjlopdaa.E.Hs
set_option linter.unusedVariables false
set_option linter.unusedSimpArgs false
set_option maxHeartbeats 20000000

theorem sameE_spec (o o' : Bool) (a : List Ed) (ha : a.length ≤ 1000000) :
    Run tab 10 0 [.sl o 4 (a.map edV), .sl o' 4 (a.map edV)] [] 0 (fun r _ _ => r = .bool true) := by
  refine enter (F := f10) rfl rfl ?_
  simp only [f10, ex,reduceIte,reduceCtorEq,Nat.reduceEqDiff,Nat.reduceLT,Nat.reduceLeDiff,Nat.reduceAdd,Nat.reduceSub,Nat.reduceMul,Int.reduceAdd,Int.reduceSub,Int.reduceMul,Int.reduceNeg,Int.reduceLE,Int.reduceLT,Int.reduceEq,Int.reduceToNat]
  (try simp only [ex,reduceIte,reduceCtorEq,Nat.reduceEqDiff,Nat.reduceLT,Nat.reduceLeDiff,Nat.reduceAdd,Nat.reduceSub,Nat.reduceMul,Int.reduceAdd,Int.reduceSub,Int.reduceMul,Int.reduceNeg,Int.reduceLE,Int.reduceLT,Int.reduceEq,Int.reduceToNat]) <;> repeat ((with_reducible refine Req.intro ?_ ?_); (first | omega | (simp <;> omega)); try simp only [ex,reduceIte,reduceCtorEq,Nat.reduceEqDiff,Nat.reduceLT,Nat.reduceLeDiff,Nat.reduceAdd,Nat.reduceSub,Nat.reduceMul,Int.reduceAdd,Int.reduceSub,Int.reduceMul,Int.reduceNeg,Int.reduceLE,Int.reduceLT,Int.reduceEq,Int.reduceToNat])
  refine loopI fun L hL => ?_
  (try simp only [ex,reduceIte,reduceCtorEq,Nat.reduceEqDiff,Nat.reduceLT,Nat.reduceLeDiff,Nat.reduceAdd,Nat.reduceSub,Nat.reduceMul,Int.reduceAdd,Int.reduceSub,Int.reduceMul,Int.reduceNeg,Int.reduceLE,Int.reduceLT,Int.reduceEq,Int.reduceToNat]) <;> repeat ((with_reducible refine Req.intro ?_ ?_); (first | omega | (simp <;> omega)); try simp only [ex,reduceIte,reduceCtorEq,Nat.reduceEqDiff,Nat.reduceLT,Nat.reduceLeDiff,Nat.reduceAdd,Nat.reduceSub,Nat.reduceMul,Int.reduceAdd,Int.reduceSub,Int.reduceMul,Int.reduceNeg,Int.reduceLE,Int.reduceLT,Int.reduceEq,Int.reduceToNat])
  have key : ∀ m i : Nat, i + m = a.length → L (L10_1 (.sl o 4 (a.map edV)) (.sl o' 4 (a.map edV)) (.int .i64 i) [] 0) := by
    intro m
    induction m with
    | zero =>
      intro i hi
      apply hL
      simp only [L10_1, l10_1, ex,reduceIte,reduceCtorEq,Nat.reduceEqDiff,Nat.reduceLT,Nat.reduceLeDiff,Nat.reduceAdd,Nat.reduceSub,Nat.reduceMul,Int.reduceAdd,Int.reduceSub,Int.reduceMul,Int.reduceNeg,Int.reduceLE,Int.reduceLT,Int.reduceEq,Int.reduceToNat]
      have h1 : decide ((i : Int) < (a.length : Int)) = false := by simp; omega
      (try simp only [h1, ex,reduceIte,reduceCtorEq,Nat.reduceEqDiff,Nat.reduceLT,Nat.reduceLeDiff,Nat.reduceAdd,Nat.reduceSub,Nat.reduceMul,Int.reduceAdd,Int.reduceSub,Int.reduceMul,Int.reduceNeg,Int.reduceLE,Int.reduceLT,Int.reduceEq,Int.reduceToNat]) <;> repeat ((with_reducible refine Req.intro ?_ ?_); (first | omega | (simp <;> omega)); try simp only [h1, ex,reduceIte,reduceCtorEq,Nat.reduceEqDiff,Nat.reduceLT,Nat.reduceLeDiff,Nat.reduceAdd,Nat.reduceSub,Nat.reduceMul,Int.reduceAdd,Int.reduceSub,Int.reduceMul,Int.reduceNeg,Int.reduceLE,Int.reduceLT,Int.reduceEq,Int.reduceToNat])
    | succ m ih =>
      intro i hi
      apply hL
      simp only [L10_1, l10_1, ex,reduceIte,reduceCtorEq,Nat.reduceEqDiff,Nat.reduceLT,Nat.reduceLeDiff,Nat.reduceAdd,Nat.reduceSub,Nat.reduceMul,Int.reduceAdd,Int.reduceSub,Int.reduceMul,Int.reduceNeg,Int.reduceLE,Int.reduceLT,Int.reduceEq,Int.reduceToNat]
      have h1 : decide ((i : Int) < (a.length : Int)) = true := by simp; omega
      have g1 : a[i]? = some (a[i]'(by omega)) := List.getElem?_eq_getElem _
      generalize hx : a[i]'(by omega) = x at g1
      (try simp only [h1, g1, edV, ex,reduceIte,reduceCtorEq,Nat.reduceEqDiff,Nat.reduceLT,Nat.reduceLeDiff,Nat.reduceAdd,Nat.reduceSub,Nat.reduceMul,Int.reduceAdd,Int.reduceSub,Int.reduceMul,Int.reduceNeg,Int.reduceLE,Int.reduceLT,Int.reduceEq,Int.reduceToNat]) <;> repeat ((with_reducible refine Req.intro ?_ ?_); (first | omega | (simp <;> omega)); try simp only [h1, g1, edV, ex,reduceIte,reduceCtorEq,Nat.reduceEqDiff,Nat.reduceLT,Nat.reduceLeDiff,Nat.reduceAdd,Nat.reduceSub,Nat.reduceMul,Int.reduceAdd,Int.reduceSub,Int.reduceMul,Int.reduceNeg,Int.reduceLE,Int.reduceLT,Int.reduceEq,Int.reduceToNat])
      exact ih (i + 1) (by omega)
  exact key a.length 0 (Nat.zero_add _)

def movR (x y : Nat) (r : Rn) : Rn := ⟨r.A + x, r.B + y, r.N⟩
theorem moved_spec (o : Bool) (l : List Rn) (x y : Nat) (hl : l.length ≤ 1000000) (hb : ∀ r ∈ l, r.A ≤ 1000000 ∧ r.B ≤ 1000000) (hx : x ≤ 1000000) (hy : y ≤ 1000000) :
    Run tab 39 0 [.sl o 3 (l.map rnV), .int .i64 x, .int .i64 y] [] 0 (fun r _ _ => r = .sl true 3 ((l.map (movR x y)).map rnV)) := by
  refine enter (F := f39) rfl rfl ?_
  simp only [f39, ex,reduceIte,reduceCtorEq,Nat.reduceEqDiff,Nat.reduceLT,Nat.reduceLeDiff,Nat.reduceAdd,Nat.reduceSub,Nat.reduceMul,Int.reduceAdd,Int.reduceSub,Int.reduceMul,Int.reduceNeg,Int.reduceLE,Int.reduceLT,Int.reduceEq,Int.reduceToNat]
  (try simp only [ex,reduceIte,reduceCtorEq,Nat.reduceEqDiff,Nat.reduceLT,Nat.reduceLeDiff,Nat.reduceAdd,Nat.reduceSub,Nat.reduceMul,Int.reduceAdd,Int.reduceSub,Int.reduceMul,Int.reduceNeg,Int.reduceLE,Int.reduceLT,Int.reduceEq,Int.reduceToNat]) <;> repeat ((with_reducible refine Req.intro ?_ ?_); (first | omega | (simp <;> omega)); try simp only [ex,reduceIte,reduceCtorEq,Nat.reduceEqDiff,Nat.reduceLT,Nat.reduceLeDiff,Nat.reduceAdd,Nat.reduceSub,Nat.reduceMul,Int.reduceAdd,Int.reduceSub,Int.reduceMul,Int.reduceNeg,Int.reduceLE,Int.reduceLT,Int.reduceEq,Int.reduceToNat])
  refine loopI fun L hL => ?_
  (try simp only [ex,reduceIte,reduceCtorEq,Nat.reduceEqDiff,Nat.reduceLT,Nat.reduceLeDiff,Nat.reduceAdd,Nat.reduceSub,Nat.reduceMul,Int.reduceAdd,Int.reduceSub,Int.reduceMul,Int.reduceNeg,Int.reduceLE,Int.reduceLT,Int.reduceEq,Int.reduceToNat]) <;> repeat ((with_reducible refine Req.intro ?_ ?_); (first | omega | (simp <;> omega)); try simp only [ex,reduceIte,reduceCtorEq,Nat.reduceEqDiff,Nat.reduceLT,Nat.reduceLeDiff,Nat.reduceAdd,Nat.reduceSub,Nat.reduceMul,Int.reduceAdd,Int.reduceSub,Int.reduceMul,Int.reduceNeg,Int.reduceLE,Int.reduceLT,Int.reduceEq,Int.reduceToNat])
  have key : ∀ m p : Nat, p + m = l.length → L (L39_1 (.sl o 3 (l.map rnV)) (.int .i64 x) (.int .i64 y) (.sl true 3 (((l.take p).map (movR x y)).map rnV)) (.int .i64 p) [] 0) := by
    intro m
    induction m with
    | zero =>
      intro p hp
      apply hL
      simp only [L39_1, l39_1, ex,reduceIte,reduceCtorEq,Nat.reduceEqDiff,Nat.reduceLT,Nat.reduceLeDiff,Nat.reduceAdd,Nat.reduceSub,Nat.reduceMul,Int.reduceAdd,Int.reduceSub,Int.reduceMul,Int.reduceNeg,Int.reduceLE,Int.reduceLT,Int.reduceEq,Int.reduceToNat]
      have h1 : decide ((p : Int) < (l.length : Int)) = false := by simp; omega
      (try simp only [h1, ex,reduceIte,reduceCtorEq,Nat.reduceEqDiff,Nat.reduceLT,Nat.reduceLeDiff,Nat.reduceAdd,Nat.reduceSub,Nat.reduceMul,Int.reduceAdd,Int.reduceSub,Int.reduceMul,Int.reduceNeg,Int.reduceLE,Int.reduceLT,Int.reduceEq,Int.reduceToNat]) <;> repeat ((with_reducible refine Req.intro ?_ ?_); (first | omega | (simp <;> omega)); try simp only [h1, ex,reduceIte,reduceCtorEq,Nat.reduceEqDiff,Nat.reduceLT,Nat.reduceLeDiff,Nat.reduceAdd,Nat.reduceSub,Nat.reduceMul,Int.reduceAdd,Int.reduceSub,Int.reduceMul,Int.reduceNeg,Int.reduceLE,Int.reduceLT,Int.reduceEq,Int.reduceToNat])
      rw [List.take_of_length_le (by omega)]
    | succ m ih =>
      intro p hp
      apply hL
      simp only [L39_1, l39_1, ex,reduceIte,reduceCtorEq,Nat.reduceEqDiff,Nat.reduceLT,Nat.reduceLeDiff,Nat.reduceAdd,Nat.reduceSub,Nat.reduceMul,Int.reduceAdd,Int.reduceSub,Int.reduceMul,Int.reduceNeg,Int.reduceLE,Int.reduceLT,Int.reduceEq,Int.reduceToNat]
      have h1 : decide ((p : Int) < (l.length : Int)) = true := by simp; omega
      have g1 : l[p]? = some (l[p]'(by omega)) := List.getElem?_eq_getElem _
      have hb1 := hb (l[p]'(by omega)) (List.getElem_mem _)
      generalize hx : l[p]'(by omega) = r at g1 hb1
      have b1 := hb1.1
      have b2 := hb1.2
      have h9 := ih (p + 1) (by omega)
      rw [List.take_add_one, g1, List.map_append, List.map_append] at h9
      have hlen : ((l.take p).map (movR x y)).length ≤ 1000000 := by simp; omega
      (try simp only [h1, g1, rnV, ex,reduceIte,reduceCtorEq,Nat.reduceEqDiff,Nat.reduceLT,Nat.reduceLeDiff,Nat.reduceAdd,Nat.reduceSub,Nat.reduceMul,Int.reduceAdd,Int.reduceSub,Int.reduceMul,Int.reduceNeg,Int.reduceLE,Int.reduceLT,Int.reduceEq,Int.reduceToNat]) <;> repeat ((with_reducible refine Req.intro ?_ ?_); (first | omega | (simp <;> omega)); try simp only [h1, g1, rnV, ex,reduceIte,reduceCtorEq,Nat.reduceEqDiff,Nat.reduceLT,Nat.reduceLeDiff,Nat.reduceAdd,Nat.reduceSub,Nat.reduceMul,Int.reduceAdd,Int.reduceSub,Int.reduceMul,Int.reduceNeg,Int.reduceLE,Int.reduceLT,Int.reduceEq,Int.reduceToNat])
      exact h9
  exact key l.length 0 (Nat.zero_add _)
end Go.Proofs.Ytmmcepbcjlopdaa.E.Hs

/- diff.FromRuns and its closure: walked at runs that fit. Conditions: none. -/
namespace Go.Proofs.Ytmmcepbcjlopdaa.E.Hs
set_option linter.unusedVariables false
set_option linter.unusedSimpArgs false
set_option maxHeartbeats 20000000
set_option maxRecDepth 100000

def frH (i j : Nat) (out : List Ed) : Heap := [(0, .rows 1 [.agg [.sl true 4 (out.map edV)]]), (1, .rows 1 [.agg [.int .i64 i]]), (2, .rows 1 [.agg [.int .i64 j]])]
theorem lay_spec (i j a b c : Nat) (out : List Ed) (hi : i ≤ a) (hj : j ≤ b) (ha : a ≤ 1000000) (hb : b ≤ 1000000) (ho : out.length ≤ 2000000) :
    Run tab 38 0 [.int .i64 a, .int .i64 b, .ptr 1 1 0 0, .ptr 2 1 0 0, .ptr 0 1 0 0] (frH i j out) c (fun r h n => r = .tup [] ∧ h = frH i j (out ++ gap i j a b) ∧ n = c) := by
  refine enter (F := f38) rfl rfl ?_
  simp only [f38, frH, ex,reduceIte,reduceCtorEq,Nat.reduceEqDiff,Nat.reduceLT,Nat.reduceLeDiff,Nat.reduceAdd,Nat.reduceSub,Nat.reduceMul,Int.reduceAdd,Int.reduceSub,Int.reduceMul,Int.reduceNeg,Int.reduceLE,Int.reduceLT,Int.reduceEq,Int.reduceToNat]
  have h4 : (a : Int) - (i : Int) = ((a - i : Nat) : Int) := by omega
  have h5 : (b : Int) - (j : Int) = ((b - j : Nat) : Int) := by omega
  rcases Nat.lt_or_ge i a with c1 | c1
  · have h2 : decide ((a : Int) > (i : Int)) = true := by simp; omega
    rw [gap, if_pos (.inl c1), List.map_append]
    (try simp only [h2, h4, h5, ex,reduceIte,reduceCtorEq,Nat.reduceEqDiff,Nat.reduceLT,Nat.reduceLeDiff,Nat.reduceAdd,Nat.reduceSub,Nat.reduceMul,Int.reduceAdd,Int.reduceSub,Int.reduceMul,Int.reduceNeg,Int.reduceLE,Int.reduceLT,Int.reduceEq,Int.reduceToNat]) <;> repeat ((with_reducible refine Req.intro ?_ ?_); (first | omega | (simp <;> omega)); try simp only [h2, h4, h5, ex,reduceIte,reduceCtorEq,Nat.reduceEqDiff,Nat.reduceLT,Nat.reduceLeDiff,Nat.reduceAdd,Nat.reduceSub,Nat.reduceMul,Int.reduceAdd,Int.reduceSub,Int.reduceMul,Int.reduceNeg,Int.reduceLE,Int.reduceLT,Int.reduceEq,Int.reduceToNat])
    exact ⟨rfl, rfl⟩
  · have h2 : decide ((a : Int) > (i : Int)) = false := by simp; omega
    rcases Nat.lt_or_ge j b with c2 | c2
    · have h3 : decide ((b : Int) > (j : Int)) = true := by simp; omega
      rw [gap, if_pos (.inr c2), List.map_append]
      (try simp only [h2, h3, h4, h5, ex,reduceIte,reduceCtorEq,Nat.reduceEqDiff,Nat.reduceLT,Nat.reduceLeDiff,Nat.reduceAdd,Nat.reduceSub,Nat.reduceMul,Int.reduceAdd,Int.reduceSub,Int.reduceMul,Int.reduceNeg,Int.reduceLE,Int.reduceLT,Int.reduceEq,Int.reduceToNat]) <;> repeat ((with_reducible refine Req.intro ?_ ?_); (first | omega | (simp <;> omega)); try simp only [h2, h3, h4, h5, ex,reduceIte,reduceCtorEq,Nat.reduceEqDiff,Nat.reduceLT,Nat.reduceLeDiff,Nat.reduceAdd,Nat.reduceSub,Nat.reduceMul,Int.reduceAdd,Int.reduceSub,Int.reduceMul,Int.reduceNeg,Int.reduceLE,Int.reduceLT,Int.reduceEq,Int.reduceToNat])
      exact ⟨rfl, rfl⟩
    · have h3 : decide ((b : Int) > (j : Int)) = false := by simp; omega
      rw [gap, if_neg (by omega), List.append_nil]
      (try simp only [h2, h3, ex,reduceIte,reduceCtorEq,Nat.reduceEqDiff,Nat.reduceLT,Nat.reduceLeDiff,Nat.reduceAdd,Nat.reduceSub,Nat.reduceMul,Int.reduceAdd,Int.reduceSub,Int.reduceMul,Int.reduceNeg,Int.reduceLE,Int.reduceLT,Int.reduceEq,Int.reduceToNat]) <;> repeat ((with_reducible refine Req.intro ?_ ?_); (first | omega | (simp <;> omega)); try simp only [h2, h3, ex,reduceIte,reduceCtorEq,Nat.reduceEqDiff,Nat.reduceLT,Nat.reduceLeDiff,Nat.reduceAdd,Nat.reduceSub,Nat.reduceMul,Int.reduceAdd,Int.reduceSub,Int.reduceMul,Int.reduceNeg,Int.reduceLE,Int.reduceLT,Int.reduceEq,Int.reduceToNat])
      rfl

theorem fromRuns_spec (o : Bool) (l : List Rn) (n m : Nat) (hl : FitR n m l 0 0) (hlen : l.length ≤ 1000000) (hn : n ≤ 1000000) (hm : m ≤ 1000000) :
    Run tab 25 0 [.int .i64 n, .int .i64 m, .sl o 3 (l.map rnV)] [] 0 (fun r _ _ => r = .sl false 4 ((edsOf n m l 0 0).map edV)) := by
  refine enter (F := f25) rfl rfl ?_
  simp only [f25, ex,reduceIte,reduceCtorEq,Nat.reduceEqDiff,Nat.reduceLT,Nat.reduceLeDiff,Nat.reduceAdd,Nat.reduceSub,Nat.reduceMul,Int.reduceAdd,Int.reduceSub,Int.reduceMul,Int.reduceNeg,Int.reduceLE,Int.reduceLT,Int.reduceEq,Int.reduceToNat]
  have z1 : decide ((n : Int) < 0) = false := by simp
  have z2 : decide ((m : Int) < 0) = false := by simp
  (try simp only [z1, z2, ex,reduceIte,reduceCtorEq,Nat.reduceEqDiff,Nat.reduceLT,Nat.reduceLeDiff,Nat.reduceAdd,Nat.reduceSub,Nat.reduceMul,Int.reduceAdd,Int.reduceSub,Int.reduceMul,Int.reduceNeg,Int.reduceLE,Int.reduceLT,Int.reduceEq,Int.reduceToNat]) <;> repeat ((with_reducible refine Req.intro ?_ ?_); (first | omega | (simp <;> omega)); try simp only [z1, z2, ex,reduceIte,reduceCtorEq,Nat.reduceEqDiff,Nat.reduceLT,Nat.reduceLeDiff,Nat.reduceAdd,Nat.reduceSub,Nat.reduceMul,Int.reduceAdd,Int.reduceSub,Int.reduceMul,Int.reduceNeg,Int.reduceLE,Int.reduceLT,Int.reduceEq,Int.reduceToNat])
  refine loopI fun L hL => ?_
  (try simp only [ex,reduceIte,reduceCtorEq,Nat.reduceEqDiff,Nat.reduceLT,Nat.reduceLeDiff,Nat.reduceAdd,Nat.reduceSub,Nat.reduceMul,Int.reduceAdd,Int.reduceSub,Int.reduceMul,Int.reduceNeg,Int.reduceLE,Int.reduceLT,Int.reduceEq,Int.reduceToNat]) <;> repeat ((with_reducible refine Req.intro ?_ ?_); (first | omega | (simp <;> omega)); try simp only [ex,reduceIte,reduceCtorEq,Nat.reduceEqDiff,Nat.reduceLT,Nat.reduceLeDiff,Nat.reduceAdd,Nat.reduceSub,Nat.reduceMul,Int.reduceAdd,Int.reduceSub,Int.reduceMul,Int.reduceNeg,Int.reduceLE,Int.reduceLT,Int.reduceEq,Int.reduceToNat])
  have key : ∀ (q p c i j : Nat) (out : List Ed), p + q = l.length → FitR n m (l.drop p) i j → i ≤ n → j ≤ m → out.length ≤ p → out ++ edsOf n m (l.drop p) i j = edsOf n m l 0 0 →
      L (L25_1 (.int .i64 n) (.int .i64 m) (.ptr 0 1 0 0) (.ptr 1 1 0 0) (.ptr 2 1 0 0) (.fn 38 [.ptr 1 1 0 0, .ptr 2 1 0 0, .ptr 0 1 0 0]) (.sl o 3 (l.map rnV)) (.int .i64 l.length) (.int .i64 p) (frH i j out) c) := by
    intro q
    induction q with
    | zero =>
      intro p c i j out hp hf hi hj ho he
      apply hL
      simp only [L25_1, l25_1, ex,reduceIte,reduceCtorEq,Nat.reduceEqDiff,Nat.reduceLT,Nat.reduceLeDiff,Nat.reduceAdd,Nat.reduceSub,Nat.reduceMul,Int.reduceAdd,Int.reduceSub,Int.reduceMul,Int.reduceNeg,Int.reduceLE,Int.reduceLT,Int.reduceEq,Int.reduceToNat]
      have h1 : decide ((p : Int) < (l.length : Int)) = false := by simp; omega
      rw [List.drop_of_length_le (by omega), edsOf] at he
      (try simp only [h1, ex,reduceIte,reduceCtorEq,Nat.reduceEqDiff,Nat.reduceLT,Nat.reduceLeDiff,Nat.reduceAdd,Nat.reduceSub,Nat.reduceMul,Int.reduceAdd,Int.reduceSub,Int.reduceMul,Int.reduceNeg,Int.reduceLE,Int.reduceLT,Int.reduceEq,Int.reduceToNat]) <;> repeat ((with_reducible refine Req.intro ?_ ?_); (first | omega | (simp <;> omega)); try simp only [h1, ex,reduceIte,reduceCtorEq,Nat.reduceEqDiff,Nat.reduceLT,Nat.reduceLeDiff,Nat.reduceAdd,Nat.reduceSub,Nat.reduceMul,Int.reduceAdd,Int.reduceSub,Int.reduceMul,Int.reduceNeg,Int.reduceLE,Int.reduceLT,Int.reduceEq,Int.reduceToNat])
      refine CallH.eq (lay_spec i j n m c out hi hj hn hm (by omega)) ?_
      rw [he]
      (try simp only [frH, Nat.sub_self, ex,reduceIte,reduceCtorEq,Nat.reduceEqDiff,Nat.reduceLT,Nat.reduceLeDiff,Nat.reduceAdd,Nat.reduceSub,Nat.reduceMul,Int.reduceAdd,Int.reduceSub,Int.reduceMul,Int.reduceNeg,Int.reduceLE,Int.reduceLT,Int.reduceEq,Int.reduceToNat]) <;> repeat ((with_reducible refine Req.intro ?_ ?_); (first | omega | (simp <;> omega)); try simp only [frH, Nat.sub_self, ex,reduceIte,reduceCtorEq,Nat.reduceEqDiff,Nat.reduceLT,Nat.reduceLeDiff,Nat.reduceAdd,Nat.reduceSub,Nat.reduceMul,Int.reduceAdd,Int.reduceSub,Int.reduceMul,Int.reduceNeg,Int.reduceLE,Int.reduceLT,Int.reduceEq,Int.reduceToNat])
    | succ q ih =>
      intro p c i j out hp hf hi hj ho he
      apply hL
      simp only [L25_1, l25_1, ex,reduceIte,reduceCtorEq,Nat.reduceEqDiff,Nat.reduceLT,Nat.reduceLeDiff,Nat.reduceAdd,Nat.reduceSub,Nat.reduceMul,Int.reduceAdd,Int.reduceSub,Int.reduceMul,Int.reduceNeg,Int.reduceLE,Int.reduceLT,Int.reduceEq,Int.reduceToNat]
      have h1 : decide ((p : Int) < (l.length : Int)) = true := by simp; omega
      have g1 : l[p]? = some (l[p]'(by omega)) := List.getElem?_eq_getElem _
      rw [List.drop_eq_getElem_cons (by omega)] at he hf
      generalize hx : l[p]'(by omega) = r at g1 hf he
      rw [edsOf, ← List.append_assoc] at he
      have f1 := hf.1
      have f2 := hf.2.1
      have f3 := hf.2.2.1
      have f4 := hf.2.2.2.1
      have f5 := hf.2.2.2.2.1
      have f6 := hf.2.2.2.2.2
      have u1 : decide ((r.N : Int) < 1) = false := by simp; omega
      have u2 : decide ((r.A : Int) < (i : Int)) = false := by simp; omega
      have u3 : decide ((r.B : Int) < (j : Int)) = false := by simp; omega
      have u4 : decide ((r.A : Int) > (n : Int)) = false := by simp; omega
      have u5 : decide ((r.B : Int) > (m : Int)) = false := by simp; omega
      have u6 : decide ((r.N : Int) > (n : Int) - (r.A : Int)) = false := by simp; omega
      have u7 : decide ((r.N : Int) > (m : Int) - (r.B : Int)) = false := by simp; omega
      have hgl : (gap i j r.A r.B).length ≤ 1 := by unfold gap; split <;> simp
      have h9 := ih (p + 1) (c + 1) (r.A + r.N) (r.B + r.N) (out ++ gap i j r.A r.B) (by omega) f6 f4 f5 (by rw [List.length_append]; omega) he
      (try simp only [h1, g1, rnV, frH, u1, u2, u3, u4, u5, u6, u7, ex,reduceIte,reduceCtorEq,Nat.reduceEqDiff,Nat.reduceLT,Nat.reduceLeDiff,Nat.reduceAdd,Nat.reduceSub,Nat.reduceMul,Int.reduceAdd,Int.reduceSub,Int.reduceMul,Int.reduceNeg,Int.reduceLE,Int.reduceLT,Int.reduceEq,Int.reduceToNat]) <;> repeat ((with_reducible refine Req.intro ?_ ?_); (first | omega | (simp <;> omega)); try simp only [h1, g1, rnV, frH, u1, u2, u3, u4, u5, u6, u7, ex,reduceIte,reduceCtorEq,Nat.reduceEqDiff,Nat.reduceLT,Nat.reduceLeDiff,Nat.reduceAdd,Nat.reduceSub,Nat.reduceMul,Int.reduceAdd,Int.reduceSub,Int.reduceMul,Int.reduceNeg,Int.reduceLE,Int.reduceLT,Int.reduceEq,Int.reduceToNat])
      refine CallH.eq (lay_spec i j r.A r.B (c + 1) out f2 f3 (by omega) (by omega) (by omega)) ?_
      (try simp only [frH, Nat.sub_self, ex,reduceIte,reduceCtorEq,Nat.reduceEqDiff,Nat.reduceLT,Nat.reduceLeDiff,Nat.reduceAdd,Nat.reduceSub,Nat.reduceMul,Int.reduceAdd,Int.reduceSub,Int.reduceMul,Int.reduceNeg,Int.reduceLE,Int.reduceLT,Int.reduceEq,Int.reduceToNat]) <;> repeat ((with_reducible refine Req.intro ?_ ?_); (first | omega | (simp <;> omega)); try simp only [frH, Nat.sub_self, ex,reduceIte,reduceCtorEq,Nat.reduceEqDiff,Nat.reduceLT,Nat.reduceLeDiff,Nat.reduceAdd,Nat.reduceSub,Nat.reduceMul,Int.reduceAdd,Int.reduceSub,Int.reduceMul,Int.reduceNeg,Int.reduceLE,Int.reduceLT,Int.reduceEq,Int.reduceToNat])
      exact h9
  exact key l.length 0 3 0 0 [] (Nat.zero_add _) hl (Nat.zero_le _) (Nat.zero_le _) (by simp) (by simp)
end Go.Proofs.Ytmmcepbcjlopdaa.E.Hs

/- The runs that stay, by rare lines: plain lists. Conditions: none. -/
namespace Go.Proofs.Ytmmcepbcjlopdaa.E.Hs
set_option linter.unusedVariables false
set_option linter.unusedSimpArgs false
set_option maxHeartbeats 20000000

/-- How long two lists are the same at their end. -/
def suf (a b : List S) : Nat := lcp a.reverse b.reverse
theorem suf_le (a b : List S) : suf a b ≤ a.length ∧ suf a b ≤ b.length := by
  have := lcp_le a.reverse b.reverse
  simpa [suf] using this
theorem suf_lt {a b : List S} {m : Nat} (h : m < suf a b) : ∃ s, a[a.length - 1 - m]? = some s ∧ b[b.length - 1 - m]? = some s := by
  have hl := suf_le a b
  have h9 := lcp_lt a.reverse b.reverse m h
  rw [List.getElem?_reverse (by omega), List.getElem?_reverse (by omega)] at h9
  exact h9
theorem suf_end {a b : List S} {s t : S} (h1 : suf a b < a.length) (h2 : suf a b < b.length) (h3 : a[a.length - 1 - suf a b]? = some s) (h4 : b[b.length - 1 - suf a b]? = some t) : s ≠ t := by
  refine lcp_end a.reverse b.reverse s t ?_ ?_
  · show a.reverse[suf a b]? = some s
    rw [List.getElem?_reverse h1]; exact h3
  · show b.reverse[suf a b]? = some t
    rw [List.getElem?_reverse h2]; exact h4
def shR (x y : Nat) (l : List Rn) : List Rn := l.map (movR x y)
theorem shR_app (x y : Nat) (l l' : List Rn) : shR x y (l ++ l') = shR x y l ++ shR x y l' := List.map_append
theorem shR_shR (x y x' y' : Nat) (l : List Rn) : shR x y (shR x' y' l) = shR (x' + x) (y' + y) l := by
  unfold shR; rw [List.map_map]
  apply List.map_congr_left
  intro r _
  simp [movR, Nat.add_assoc]
theorem shR_zero (l : List Rn) : shR 0 0 l = l := by
  unfold shR
  rw [show movR 0 0 = id from by funext r; rfl]
  exact List.map_id l
theorem shR_nz (x y : Nat) (l : List Rn) : (shR x y l).filter nz = shR x y (l.filter nz) := by
  unfold shR
  rw [List.filter_map]
  rfl
theorem shR_len (x y : Nat) (l : List Rn) : (shR x y l).length = l.length := by simp [shR]
/-- What is between the common beginning and the common end. -/
def cut1 (a b : List S) : List S := a.drop (lcp a b)
def cutA (a b : List S) : List S := (a.drop (lcp a b)).take (a.length - lcp a b - suf (a.drop (lcp a b)) (b.drop (lcp a b)))
def cutB (a b : List S) : List S := (b.drop (lcp a b)).take (b.length - lcp a b - suf (a.drop (lcp a b)) (b.drop (lcp a b)))
/-- The runs, those without lines among them. -/
def stz : Nat → List S → List S → List Rn
  | 0, _, _ => []
  | k + 1, a, b =>
    ⟨0, 0, lcp a b⟩ :: shR (lcp a b) (lcp a b) ((if cutA a b = [] ∨ cutB a b = [] then [] else
      if (pRes (cutA a b) (cutB a b)).found = true then
        stz k ((cutA a b).take (pRes (cutA a b) (cutB a b)).best.A) ((cutB a b).take (pRes (cutA a b) (cutB a b)).best.B) ++
        ((pRes (cutA a b) (cutB a b)).best :: shR ((pRes (cutA a b) (cutB a b)).best.A + (pRes (cutA a b) (cutB a b)).best.N) ((pRes (cutA a b) (cutB a b)).best.B + (pRes (cutA a b) (cutB a b)).best.N)
          (stz k ((cutA a b).drop ((pRes (cutA a b) (cutB a b)).best.A + (pRes (cutA a b) (cutB a b)).best.N)) ((cutB a b).drop ((pRes (cutA a b) (cutB a b)).best.B + (pRes (cutA a b) (cutB a b)).best.N))))
      else leastRn (cutA a b) (cutB a b)) ++ [⟨(cutA a b).length, (cutB a b).length, suf (a.drop (lcp a b)) (b.drop (lcp a b))⟩])
def midz (k : Nat) (a b : List S) : List Rn := if (pRes a b).found = true then
    stz k (a.take (pRes a b).best.A) (b.take (pRes a b).best.B) ++ ((pRes a b).best :: shR ((pRes a b).best.A + (pRes a b).best.N) ((pRes a b).best.B + (pRes a b).best.N) (stz k (a.drop ((pRes a b).best.A + (pRes a b).best.N)) (b.drop ((pRes a b).best.B + (pRes a b).best.N))))
  else leastRn a b
theorem stz_succ (k : Nat) (a b : List S) : stz (k + 1) a b = ⟨0, 0, lcp a b⟩ :: shR (lcp a b) (lcp a b) ((if cutA a b = [] ∨ cutB a b = [] then [] else midz k (cutA a b) (cutB a b)) ++ [⟨(cutA a b).length, (cutB a b).length, suf (a.drop (lcp a b)) (b.drop (lcp a b))⟩]) := rfl
theorem pRes_fits (a b : List S) (h : (pRes a b).found = true) : Cand a b (pRes a b).best ∧ 0 < (pRes a b).best.N ∧ (pRes a b).best.A + (pRes a b).best.N ≤ a.length ∧ (pRes a b).best.B + (pRes a b).best.N ≤ b.length := by
  have h9 := (panchor_is a b).1
  rw [if_pos h] at h9
  exact ⟨h9.1, cand_fits h9.1⟩
theorem cut_len (a b : List S) : (cutA a b).length = a.length - lcp a b - suf (a.drop (lcp a b)) (b.drop (lcp a b)) ∧ (cutB a b).length = b.length - lcp a b - suf (a.drop (lcp a b)) (b.drop (lcp a b)) ∧ lcp a b + suf (a.drop (lcp a b)) (b.drop (lcp a b)) ≤ a.length ∧ lcp a b + suf (a.drop (lcp a b)) (b.drop (lcp a b)) ≤ b.length := by
  have h1 := suf_le (a.drop (lcp a b)) (b.drop (lcp a b))
  have h2 := lcp_le a b
  simp only [List.length_drop] at h1
  simp only [cutA, cutB, List.length_take, List.length_drop]
  omega
theorem stz_len : ∀ (k : Nat) (a b : List S), a.length ≤ 10000 → b.length ≤ 10000 → (stz k a b).length ≤ 4 * (a.length + b.length) + 2
  | 0, a, b, _, _ => by simp [stz]
  | k + 1, a, b, ha, hb => by
    have hc := cut_len a b
    rw [stz_succ]
    simp only [List.length_cons, shR_len, List.length_append, List.length_nil]
    split
    · simp
    · rename_i hne
      have hA : cutA a b ≠ [] := fun e => hne (.inl e)
      have hB : cutB a b ≠ [] := fun e => hne (.inr e)
      have lA := List.length_pos_iff.2 hA
      have lB := List.length_pos_iff.2 hB
      unfold midz
      split
      · rename_i hf
        have h9 := pRes_fits _ _ hf
        generalize pRes (cutA a b) (cutB a b) = P at *
        have s1 := stz_len k ((cutA a b).take P.best.A) ((cutB a b).take P.best.B) (by simp; omega) (by simp; omega)
        have s2 := stz_len k ((cutA a b).drop (P.best.A + P.best.N)) ((cutB a b).drop (P.best.B + P.best.N)) (by simp; omega) (by simp; omega)
        simp only [List.length_append, List.length_cons, shR_len, List.length_take, List.length_drop] at s1 s2 ⊢
        omega
      · have s1 := unch_len (cutA a b).length (leastEd (cutA a b) (cutB a b)) 0 0
        have s2 := (leastEd_small (cutA a b) (cutB a b) (by omega) (by omega)).2
        unfold leastRn
        omega

theorem Com.fitall {a b : List S} : ∀ {l : List Rn} {i j : Nat}, Com a b l i j → ∀ r ∈ l, r.A + r.N ≤ a.length ∧ r.B + r.N ≤ b.length
  | [], i, j, h, r, hr => by simp at hr
  | x :: l, i, j, h, r, hr => by
    rcases List.mem_cons.1 hr with rfl | hr
    · exact ⟨h.2.2.2.1.1, h.2.2.2.1.2.1⟩
    · exact Com.fitall h.2.2.2.2 r hr

/-! ### They are common runs -/
theorem Seg.take {a b : List S} {x y p q n : Nat} (h : Seg (a.take x) (b.take y) p q n) : Seg a b p q n := by
  obtain ⟨h1, h2, h3⟩ := h
  simp only [List.length_take] at h1 h2
  refine ⟨by omega, by omega, ?_⟩
  rw [List.drop_take, List.drop_take, List.take_take, List.take_take, Nat.min_eq_left (by omega), Nat.min_eq_left (by omega)] at h3
  exact h3
theorem Seg.drop {a b : List S} {x y p q n : Nat} (hx : x ≤ a.length) (hy : y ≤ b.length) (h : Seg (a.drop x) (b.drop y) p q n) : Seg a b (p + x) (q + y) n := by
  obtain ⟨h1, h2, h3⟩ := h
  simp only [List.length_drop] at h1 h2
  refine ⟨by omega, by omega, ?_⟩
  rw [List.drop_drop, List.drop_drop] at h3
  rw [Nat.add_comm p, Nat.add_comm q]; exact h3
theorem Com.lift {a b : List S} {x y : Nat} {l2 : List Rn} (h2 : Com a b l2 x y) : ∀ {l1 : List Rn} {i j : Nat}, Com (a.take x) (b.take y) l1 i j → Com a b (l1 ++ l2) i j
  | [], i, j, h => h2.mono (by have := h.1; simp at this; omega) (by have := h.2; simp at this; omega)
  | r :: l, i, j, h => ⟨h.1, h.2.1, h.2.2.1, h.2.2.2.1.take, Com.lift h2 h.2.2.2.2⟩
theorem Com.shift {a b : List S} {x y : Nat} (hx : x ≤ a.length) (hy : y ≤ b.length) : ∀ {l : List Rn} {i j : Nat}, Com (a.drop x) (b.drop y) l i j → Com a b (shR x y l) (i + x) (j + y)
  | [], i, j, h => ⟨by have := h.1; simp at this; omega, by have := h.2; simp at this; omega⟩
  | r :: l, i, j, h => by
    have h9 := Com.shift hx hy h.2.2.2.2
    refine ⟨h.1, by have := h.2.1; simp only [movR]; omega, by have := h.2.2.1; simp only [movR]; omega, h.2.2.2.1.drop hx hy, ?_⟩
    simp only [movR]
    rw [show r.A + x + r.N = r.A + r.N + x by omega, show r.B + y + r.N = r.B + r.N + y by omega]
    exact h9
theorem Com.pos {a b : List S} : ∀ {l : List Rn} {i j : Nat}, Com a b l i j → l.filter nz = l
  | [], i, j, h => rfl
  | r :: l, i, j, h => by
    have := h.1
    rw [List.filter_cons, if_pos (by simp [nz]; omega), Com.pos h.2.2.2.2]
theorem Seg.lcp (a b : List S) : Seg a b 0 0 (Hs.lcp a b) := by
  refine ⟨by have := lcp_le a b; omega, by have := lcp_le a b; omega, ?_⟩
  rw [List.drop_zero, List.drop_zero]
  apply List.ext_getElem?
  intro i
  rw [List.getElem?_take, List.getElem?_take]
  split
  · rename_i h
    obtain ⟨s, h1, h2⟩ := lcp_lt a b i h
    rw [h1, h2]
  · rfl
theorem Seg.suf (a b : List S) : Seg a b (a.length - Hs.suf a b) (b.length - Hs.suf a b) (Hs.suf a b) := by
  have hl := suf_le a b
  refine ⟨by omega, by omega, ?_⟩
  apply List.ext_getElem?
  intro i
  rw [List.getElem?_take, List.getElem?_take]
  split
  · rename_i h
    obtain ⟨s, h1, h2⟩ := suf_lt (a := a) (b := b) (m := Hs.suf a b - 1 - i) (by omega)
    rw [List.getElem?_drop, List.getElem?_drop]
    rw [show a.length - Hs.suf a b + i = a.length - 1 - (Hs.suf a b - 1 - i) by omega, h1, show b.length - Hs.suf a b + i = b.length - 1 - (Hs.suf a b - 1 - i) by omega, h2]
  · rfl
theorem Seg.cand {a b : List S} {r : Rn} (h : Cand a b r) : Seg a b r.A r.B r.N := by
  have h1 := cand_fits h
  refine ⟨h1.2.1, h1.2.2, ?_⟩
  have h9 := (Seg.lcp (a.drop r.A) (b.drop r.B)).2.2
  rw [← h.2.1] at h9
  simpa using h9
theorem filter_one (r : Rn) : [r].filter nz = if 0 < r.N then [r] else [] := by
  by_cases c : 0 < r.N
  · rw [if_pos c, List.filter_cons, if_pos (by simp [nz]; omega)]; rfl
  · rw [if_neg c, List.filter_cons, if_neg (by simp [nz]; omega)]; rfl
theorem stz_com : ∀ (k : Nat) (a b : List S), a.length ≤ 4096 → b.length ≤ 4096 → Com a b ((stz k a b).filter nz) 0 0
  | 0, a, b, _, _ => ⟨by simp, by simp⟩
  | k + 1, a, b, ha, hb => by
    have hc := cut_len a b
    have hl := lcp_le a b
    have sA : cutA a b = (a.drop (lcp a b)).take (cutA a b).length := by
      rw [hc.1]; rfl
    have sB : cutB a b = (b.drop (lcp a b)).take (cutB a b).length := by
      rw [hc.2.1]; rfl
    rw [stz_succ, List.filter_cons]
    have mid : Com (cutA a b) (cutB a b) ((if cutA a b = [] ∨ cutB a b = [] then [] else midz k (cutA a b) (cutB a b)).filter nz) 0 0 := by
      split
      · exact ⟨by simp, by simp⟩
      · unfold midz
        split
        · rename_i hf
          have h9 := pRes_fits _ _ hf
          have h8 := Seg.cand h9.1
          generalize pRes (cutA a b) (cutB a b) = P at *
          have s1 := stz_com k ((cutA a b).take P.best.A) ((cutB a b).take P.best.B) (by simp; omega) (by simp; omega)
          have s2 := stz_com k ((cutA a b).drop (P.best.A + P.best.N)) ((cutB a b).drop (P.best.B + P.best.N)) (by simp; omega) (by simp; omega)
          have s3 := s2.shift (by omega) (by omega)
          rw [Nat.zero_add, Nat.zero_add] at s3
          rw [List.filter_append, List.filter_cons, if_pos (by simp [nz]; omega), shR_nz]
          refine Com.lift ?_ s1
          exact ⟨by omega, Nat.le_refl _, Nat.le_refl _, h8, s3⟩
        · have h9 := (leastRn_com (cutA a b) (cutB a b) (by omega) (by omega)).1
          rw [h9.pos]
          exact h9
    have e1 := Seg.suf (a.drop (lcp a b)) (b.drop (lcp a b))
    simp only [List.length_drop] at e1
    rw [← hc.1, ← hc.2.1] at e1
    have fin : Com (a.drop (lcp a b)) (b.drop (lcp a b)) (((if cutA a b = [] ∨ cutB a b = [] then [] else midz k (cutA a b) (cutB a b)) ++ [(⟨(cutA a b).length, (cutB a b).length, suf (a.drop (lcp a b)) (b.drop (lcp a b))⟩ : Rn)]).filter nz) 0 0 := by
      rw [List.filter_append]
      refine Com.lift (x := (cutA a b).length) (y := (cutB a b).length) ?_ (by rw [← sA, ← sB]; exact mid)
      have := (Com.cons0 (l := []) (x := (cutA a b).length) (y := (cutB a b).length) (k := suf (a.drop (lcp a b)) (b.drop (lcp a b))) ⟨by simp only [List.length_drop]; omega, by simp only [List.length_drop]; omega⟩ e1).1
      rw [List.append_nil] at this
      rw [filter_one]
      exact this
    have f2 := fin.shift hl.1 hl.2
    rw [← shR_nz] at f2
    have f3 := (Com.cons0 (x := 0) (y := 0) (k := lcp a b) (by simpa using f2) (Seg.lcp a b)).1
    by_cases c : 0 < lcp a b
    · rw [if_pos (by simp [nz]; omega)]
      rw [if_pos c] at f3
      exact f3
    · rw [if_neg (by simp [nz]; omega)]
      rw [if_neg c] at f3
      exact f3
theorem midz_com (k : Nat) (a b : List S) (ha : a.length ≤ 4096) (hb : b.length ≤ 4096) : Com a b ((midz k a b).filter nz) 0 0 := by
  unfold midz
  split
  · rename_i hf
    have h9 := pRes_fits _ _ hf
    have h8 := Seg.cand h9.1
    generalize pRes a b = P at *
    have s1 := stz_com k (a.take P.best.A) (b.take P.best.B) (by simp; omega) (by simp; omega)
    have s2 := stz_com k (a.drop (P.best.A + P.best.N)) (b.drop (P.best.B + P.best.N)) (by simp; omega) (by simp; omega)
    have s3 := s2.shift (by omega) (by omega)
    rw [Nat.zero_add, Nat.zero_add] at s3
    rw [List.filter_append, List.filter_cons, if_pos (by simp [nz]; omega), shR_nz]
    refine Com.lift ?_ s1
    exact ⟨by omega, Nat.le_refl _, Nat.le_refl _, h8, s3⟩
  · have h9 := (leastRn_com a b (by omega) (by omega)).1
    rw [h9.pos]
    exact h9
end Go.Proofs.Ytmmcepbcjlopdaa.E.Hs

/- histo.stays: walked. Conditions: none. -/
namespace Go.Proofs.Ytmmcepbcjlopdaa.E.Hs
set_option linter.unusedVariables false
set_option linter.unusedSimpArgs false
set_option maxHeartbeats 20000000
set_option maxRecDepth 100000

/-- Runs that may be written: none yet, or a block. -/
def hsR (b : Nat) (l : List Rn) : V := if l = [] then .hs 0 0 0 0 else .hs b 3 0 l.length
def oH (b : Nat) (l : List Rn) : Heap := if l = [] then [] else [(b, .rows 3 (l.map rnV))]
theorem hsR_clr (b : Nat) (l : List Rn) : clr (hsR b l) = hsR b l := by unfold hsR; split <;> rfl
theorem app_R {b n : Nat} {out : List Rn} (r : Rn) {A B N : Int} {w : Bool} {k : V × Heap × Nat → Prop} {t : Tag k} (hA : A = r.A) (hB : B = r.B) (hN : N = r.N) (hl : out.length ≤ 1000000) :
    WK (hf (.appH 3 24) [hsR b out, .sl w 3 [.agg [.int .i64 A, .int .i64 B, .int .i64 N]]] (oH b out) n) k t = k (hsR n (out ++ [r]), oH n (out ++ [r]), 1) := by
  subst hA hB hN
  unfold hsR oH
  rw [if_neg (by simp : ¬ out ++ [r] = []), if_neg (by simp : ¬ out ++ [r] = [])]
  by_cases c : out = []
  · subst c
    rw [if_pos rfl, if_pos rfl, hf_appL, appB_nil]
    simp [Req, rnV, clr2, set, clr1]
  · rw [if_neg c, if_neg c, hf_appL, appB_put]
    simp only [get_cons, if_true, WK_some, apB_rows, del_cons, Req, List.length_nil]
    have e : (out.map rnV).take out.length = out.map rnV := List.take_of_length_le (by simp)
    simp only [Req, rnV, clr2, set, clr1, e, List.map_append, List.map_cons, List.map_nil, List.length_append, List.length_cons, List.length_nil, List.length_map, Nat.zero_add, true_and, Nat.le_refl, and_true, true_or]
    simp only [eq_iff_iff]
    exact ⟨fun h => h.2, fun h => ⟨by omega, h⟩⟩

theorem stays_spec : ∀ (k : Nat) (o o' : Bool) (a b : List S) (out : List Rn) (i j bk n : Nat), a.length ≤ 4096 → b.length ≤ 4096 → a.length + b.length < k → i + a.length ≤ 1000000 → j + b.length ≤ 1000000 → out.length + 4 * (a.length + b.length) + 2 ≤ 900000 →
    Run tab 23 0 [hsR bk out, .sl o 1 (a.map .str), .sl o' 1 (b.map .str), .int .i64 i, .int .i64 j] (oH bk out) n (fun r h' n' => ∃ b', r = hsR b' (out ++ shR i j (stz k a b)) ∧ h' = oH b' (out ++ shR i j (stz k a b))) := by
  intro k
  induction k with
  | zero => intro o o' a b out i j bk n ha hb hk; omega
  | succ k ih =>
    intro o o' a b out i j bk n ha hb hk hi hj ho
    have hp := lcp_le a b
    have hend := lcp_end a b
    have hlt := lcp_lt a b
    have hcl := cut_len a b
    have hslt := @suf_lt (a.drop (lcp a b)) (b.drop (lcp a b))
    have hsend := @suf_end (a.drop (lcp a b)) (b.drop (lcp a b))
    have hsl := suf_le (a.drop (lcp a b)) (b.drop (lcp a b))
    have hA0 : cutA a b = (a.drop (lcp a b)).take (a.length - lcp a b - suf (a.drop (lcp a b)) (b.drop (lcp a b))) := rfl
    have hB0 : cutB a b = (b.drop (lcp a b)).take (b.length - lcp a b - suf (a.drop (lcp a b)) (b.drop (lcp a b))) := rfl
    have hst := stz_succ k a b
    generalize hZ : stz (k + 1) a b = Z at *
    generalize cutA a b = a2 at *
    generalize cutB a b = b2 at *
    generalize lcp a b = p at *
    refine enter (F := f23) rfl rfl ?_
    simp only [f23, ex,reduceIte,reduceCtorEq,Nat.reduceEqDiff,Nat.reduceLT,Nat.reduceLeDiff,Nat.reduceAdd,Nat.reduceSub,Nat.reduceMul,Int.reduceAdd,Int.reduceSub,Int.reduceMul,Int.reduceNeg,Int.reduceLE,Int.reduceLT,Int.reduceEq,Int.reduceToNat]
    (try simp only [hsR_clr, ex,reduceIte,reduceCtorEq,Nat.reduceEqDiff,Nat.reduceLT,Nat.reduceLeDiff,Nat.reduceAdd,Nat.reduceSub,Nat.reduceMul,Int.reduceAdd,Int.reduceSub,Int.reduceMul,Int.reduceNeg,Int.reduceLE,Int.reduceLT,Int.reduceEq,Int.reduceToNat]) <;> repeat ((with_reducible refine Req.intro ?_ ?_); (first | omega | (simp <;> omega)); try simp only [hsR_clr, ex,reduceIte,reduceCtorEq,Nat.reduceEqDiff,Nat.reduceLT,Nat.reduceLeDiff,Nat.reduceAdd,Nat.reduceSub,Nat.reduceMul,Int.reduceAdd,Int.reduceSub,Int.reduceMul,Int.reduceNeg,Int.reduceLE,Int.reduceLT,Int.reduceEq,Int.reduceToNat])
    refine loopI fun L1 hL1 => ?_
    (try simp only [hsR_clr, ex,reduceIte,reduceCtorEq,Nat.reduceEqDiff,Nat.reduceLT,Nat.reduceLeDiff,Nat.reduceAdd,Nat.reduceSub,Nat.reduceMul,Int.reduceAdd,Int.reduceSub,Int.reduceMul,Int.reduceNeg,Int.reduceLE,Int.reduceLT,Int.reduceEq,Int.reduceToNat]) <;> repeat ((with_reducible refine Req.intro ?_ ?_); (first | omega | (simp <;> omega)); try simp only [hsR_clr, ex,reduceIte,reduceCtorEq,Nat.reduceEqDiff,Nat.reduceLT,Nat.reduceLeDiff,Nat.reduceAdd,Nat.reduceSub,Nat.reduceMul,Int.reduceAdd,Int.reduceSub,Int.reduceMul,Int.reduceNeg,Int.reduceLE,Int.reduceLT,Int.reduceEq,Int.reduceToNat])
    have key1 : ∀ m q : Nat, q + m = p → L1 (L23_1 (hsR bk out) (.sl o 1 (a.map .str)) (.sl o' 1 (b.map .str)) (.int .i64 i) (.int .i64 j) (.int .i64 q) (oH bk out) n) := by
      intro m
      induction m with
      | succ m ih1 =>
        intro q hq
        apply hL1
        simp only [L23_1, l23_1, ex,reduceIte,reduceCtorEq,Nat.reduceEqDiff,Nat.reduceLT,Nat.reduceLeDiff,Nat.reduceAdd,Nat.reduceSub,Nat.reduceMul,Int.reduceAdd,Int.reduceSub,Int.reduceMul,Int.reduceNeg,Int.reduceLE,Int.reduceLT,Int.reduceEq,Int.reduceToNat]
        have h1 : decide ((q : Int) < (a.length : Int)) = true := by simp; omega
        have h2 : decide ((q : Int) < (b.length : Int)) = true := by simp; omega
        have hs := hlt q (by omega)
        have g1 := hs.choose_spec.1
        have g2 := hs.choose_spec.2
        generalize hs.choose = x at g1 g2
        have h3 : decide (x = x) = true := by simp
        (try simp only [h1, h2, g1, g2, h3, hsR_clr, ex,reduceIte,reduceCtorEq,Nat.reduceEqDiff,Nat.reduceLT,Nat.reduceLeDiff,Nat.reduceAdd,Nat.reduceSub,Nat.reduceMul,Int.reduceAdd,Int.reduceSub,Int.reduceMul,Int.reduceNeg,Int.reduceLE,Int.reduceLT,Int.reduceEq,Int.reduceToNat]) <;> repeat ((with_reducible refine Req.intro ?_ ?_); (first | omega | (simp <;> omega)); try simp only [h1, h2, g1, g2, h3, hsR_clr, ex,reduceIte,reduceCtorEq,Nat.reduceEqDiff,Nat.reduceLT,Nat.reduceLeDiff,Nat.reduceAdd,Nat.reduceSub,Nat.reduceMul,Int.reduceAdd,Int.reduceSub,Int.reduceMul,Int.reduceNeg,Int.reduceLE,Int.reduceLT,Int.reduceEq,Int.reduceToNat])
        exact ih1 (q + 1) (by omega)
      | zero =>
        intro q hq
        have hq' : q = p := by omega
        subst hq'
        apply hL1
        simp only [L23_1, l23_1, ex,reduceIte,reduceCtorEq,Nat.reduceEqDiff,Nat.reduceLT,Nat.reduceLeDiff,Nat.reduceAdd,Nat.reduceSub,Nat.reduceMul,Int.reduceAdd,Int.reduceSub,Int.reduceMul,Int.reduceNeg,Int.reduceLE,Int.reduceLT,Int.reduceEq,Int.reduceToNat]
        apply shareL
        · intro share
          rcases Nat.lt_or_ge q a.length with c1 | c1
          · have h1 : decide ((q : Int) < (a.length : Int)) = true := by simp; omega
            rcases Nat.lt_or_ge q b.length with c2 | c2
            · have h2 : decide ((q : Int) < (b.length : Int)) = true := by simp; omega
              have g1 : a[q]? = some (a[q]'(by omega)) := List.getElem?_eq_getElem _
              have g2 : b[q]? = some (b[q]'(by omega)) := List.getElem?_eq_getElem _
              have h3 : decide (a[q]'(by omega) = b[q]'(by omega)) = false := by simpa using hend _ _ g1 g2
              (try simp only [h1, h2, g1, g2, h3, hsR_clr, ex,reduceIte,reduceCtorEq,Nat.reduceEqDiff,Nat.reduceLT,Nat.reduceLeDiff,Nat.reduceAdd,Nat.reduceSub,Nat.reduceMul,Int.reduceAdd,Int.reduceSub,Int.reduceMul,Int.reduceNeg,Int.reduceLE,Int.reduceLT,Int.reduceEq,Int.reduceToNat]) <;> repeat ((with_reducible refine Req.intro ?_ ?_); (first | omega | (simp <;> omega)); try simp only [h1, h2, g1, g2, h3, hsR_clr, ex,reduceIte,reduceCtorEq,Nat.reduceEqDiff,Nat.reduceLT,Nat.reduceLeDiff,Nat.reduceAdd,Nat.reduceSub,Nat.reduceMul,Int.reduceAdd,Int.reduceSub,Int.reduceMul,Int.reduceNeg,Int.reduceLE,Int.reduceLT,Int.reduceEq,Int.reduceToNat])
              exact share.out
            · have h2 : decide ((q : Int) < (b.length : Int)) = false := by simp; omega
              (try simp only [h1, h2, hsR_clr, ex,reduceIte,reduceCtorEq,Nat.reduceEqDiff,Nat.reduceLT,Nat.reduceLeDiff,Nat.reduceAdd,Nat.reduceSub,Nat.reduceMul,Int.reduceAdd,Int.reduceSub,Int.reduceMul,Int.reduceNeg,Int.reduceLE,Int.reduceLT,Int.reduceEq,Int.reduceToNat]) <;> repeat ((with_reducible refine Req.intro ?_ ?_); (first | omega | (simp <;> omega)); try simp only [h1, h2, hsR_clr, ex,reduceIte,reduceCtorEq,Nat.reduceEqDiff,Nat.reduceLT,Nat.reduceLeDiff,Nat.reduceAdd,Nat.reduceSub,Nat.reduceMul,Int.reduceAdd,Int.reduceSub,Int.reduceMul,Int.reduceNeg,Int.reduceLE,Int.reduceLT,Int.reduceEq,Int.reduceToNat])
              exact share.out
          · have h1 : decide ((q : Int) < (a.length : Int)) = false := by simp; omega
            (try simp only [h1, hsR_clr, ex,reduceIte,reduceCtorEq,Nat.reduceEqDiff,Nat.reduceLT,Nat.reduceLeDiff,Nat.reduceAdd,Nat.reduceSub,Nat.reduceMul,Int.reduceAdd,Int.reduceSub,Int.reduceMul,Int.reduceNeg,Int.reduceLE,Int.reduceLT,Int.reduceEq,Int.reduceToNat]) <;> repeat ((with_reducible refine Req.intro ?_ ?_); (first | omega | (simp <;> omega)); try simp only [h1, hsR_clr, ex,reduceIte,reduceCtorEq,Nat.reduceEqDiff,Nat.reduceLT,Nat.reduceLeDiff,Nat.reduceAdd,Nat.reduceSub,Nat.reduceMul,Int.reduceAdd,Int.reduceSub,Int.reduceMul,Int.reduceNeg,Int.reduceLE,Int.reduceLT,Int.reduceEq,Int.reduceToNat])
            exact share.out
        · have a1 := fun w k t => app_R (b := bk) (n := n) (out := out) (⟨i, j, q⟩ : Rn) (A := (i : Int)) (B := (j : Int)) (N := (q : Int)) (w := w) (k := k) (t := t) rfl rfl rfl (by omega)
          (try simp only [hsR_clr, a1, ex,reduceIte,reduceCtorEq,Nat.reduceEqDiff,Nat.reduceLT,Nat.reduceLeDiff,Nat.reduceAdd,Nat.reduceSub,Nat.reduceMul,Int.reduceAdd,Int.reduceSub,Int.reduceMul,Int.reduceNeg,Int.reduceLE,Int.reduceLT,Int.reduceEq,Int.reduceToNat]) <;> repeat ((with_reducible refine Req.intro ?_ ?_); (first | omega | (simp <;> omega)); try simp only [hsR_clr, a1, ex,reduceIte,reduceCtorEq,Nat.reduceEqDiff,Nat.reduceLT,Nat.reduceLeDiff,Nat.reduceAdd,Nat.reduceSub,Nat.reduceMul,Int.reduceAdd,Int.reduceSub,Int.reduceMul,Int.reduceNeg,Int.reduceLE,Int.reduceLT,Int.reduceEq,Int.reduceToNat])
          have ho1 : (out ++ [(⟨i, j, q⟩ : Rn)]).length = out.length + 1 := by simp
          have hZ2 : out ++ shR i j Z = (out ++ [⟨i, j, q⟩]) ++ shR (q + i) (q + j) (if a2 = [] ∨ b2 = [] then [] else midz k a2 b2) ++ [⟨a2.length + (q + i), b2.length + (q + j), suf (a.drop q) (b.drop q)⟩] := by
            rw [hst]
            simp only [shR, List.map_cons, List.map_append, List.map_map, List.map_nil, movR, Nat.zero_add, List.append_assoc, List.cons_append, List.nil_append]
            congr 2
            congr 1
            · apply List.map_congr_left
              intro r _
              simp [movR, Nat.add_assoc]
            · simp [Nat.add_assoc]
          rw [Nat.add_comm q i, Nat.add_comm q j] at hZ2
          generalize out ++ [(⟨i, j, q⟩ : Rn)] = out1 at *
          have la1 : (a.drop q).length = a.length - q := by simp
          have lb1 : (b.drop q).length = b.length - q := by simp
          generalize a.drop q = a1' at *
          generalize b.drop q = b1' at *
          generalize suf a1' b1' = m at *
          refine loopI fun L2 hL2 => ?_
          (try simp only [hsR_clr, ex,reduceIte,reduceCtorEq,Nat.reduceEqDiff,Nat.reduceLT,Nat.reduceLeDiff,Nat.reduceAdd,Nat.reduceSub,Nat.reduceMul,Int.reduceAdd,Int.reduceSub,Int.reduceMul,Int.reduceNeg,Int.reduceLE,Int.reduceLT,Int.reduceEq,Int.reduceToNat]) <;> repeat ((with_reducible refine Req.intro ?_ ?_); (first | omega | (simp <;> omega)); try simp only [hsR_clr, ex,reduceIte,reduceCtorEq,Nat.reduceEqDiff,Nat.reduceLT,Nat.reduceLeDiff,Nat.reduceAdd,Nat.reduceSub,Nat.reduceMul,Int.reduceAdd,Int.reduceSub,Int.reduceMul,Int.reduceNeg,Int.reduceLE,Int.reduceLT,Int.reduceEq,Int.reduceToNat])
          have key2 : ∀ mm p : Nat, p + mm = m → L2 (L23_2 (hsR n out1) (.sl false 1 (a1'.map .str)) (.sl false 1 (b1'.map .str)) (.int .i64 ((i : Int) + (q : Int))) (.int .i64 ((j : Int) + (q : Int))) (.int .i64 p) (oH n out1) (n + 1)) := by
            intro mm
            induction mm with
            | succ mm ih2 =>
              intro p hp2
              apply hL2
              simp only [L23_2, l23_2, ex,reduceIte,reduceCtorEq,Nat.reduceEqDiff,Nat.reduceLT,Nat.reduceLeDiff,Nat.reduceAdd,Nat.reduceSub,Nat.reduceMul,Int.reduceAdd,Int.reduceSub,Int.reduceMul,Int.reduceNeg,Int.reduceLE,Int.reduceLT,Int.reduceEq,Int.reduceToNat]
              have h1 : decide ((p : Int) < (a1'.length : Int)) = true := by simp; omega
              have h2 : decide ((p : Int) < (b1'.length : Int)) = true := by simp; omega
              have hs := hslt (m := p) (by omega)
              have g1 := hs.choose_spec.1
              have g2 := hs.choose_spec.2
              generalize hs.choose = x at g1 g2
              have h3 : decide (x = x) = true := by simp
              have t1 : ((a1'.length : Int) - 1 - (p : Int)).toNat = a1'.length - 1 - p := by omega
              have t2 : ((b1'.length : Int) - 1 - (p : Int)).toNat = b1'.length - 1 - p := by omega
              (try simp only [h1, h2, t1, t2, g1, g2, h3, hsR_clr, ex,reduceIte,reduceCtorEq,Nat.reduceEqDiff,Nat.reduceLT,Nat.reduceLeDiff,Nat.reduceAdd,Nat.reduceSub,Nat.reduceMul,Int.reduceAdd,Int.reduceSub,Int.reduceMul,Int.reduceNeg,Int.reduceLE,Int.reduceLT,Int.reduceEq,Int.reduceToNat]) <;> repeat ((with_reducible refine Req.intro ?_ ?_); (first | omega | (simp <;> omega)); try simp only [h1, h2, t1, t2, g1, g2, h3, hsR_clr, ex,reduceIte,reduceCtorEq,Nat.reduceEqDiff,Nat.reduceLT,Nat.reduceLeDiff,Nat.reduceAdd,Nat.reduceSub,Nat.reduceMul,Int.reduceAdd,Int.reduceSub,Int.reduceMul,Int.reduceNeg,Int.reduceLE,Int.reduceLT,Int.reduceEq,Int.reduceToNat])
              exact ih2 (p + 1) (by omega)
            | zero =>
              intro p hp2
              have hp' : p = m := by omega
              subst hp'
              have u1 : ((a1'.length : Int) - (p : Int)).toNat = a.length - q - p := by omega
              have u2 : ((b1'.length : Int) - (p : Int)).toNat = b.length - q - p := by omega
              have hA1 := hA0.symm
              have hB1 := hB0.symm
              apply hL2
              simp only [L23_2, l23_2, ex,reduceIte,reduceCtorEq,Nat.reduceEqDiff,Nat.reduceLT,Nat.reduceLeDiff,Nat.reduceAdd,Nat.reduceSub,Nat.reduceMul,Int.reduceAdd,Int.reduceSub,Int.reduceMul,Int.reduceNeg,Int.reduceLE,Int.reduceLT,Int.reduceEq,Int.reduceToNat]
              apply shareL
              · intro share
                rcases Nat.lt_or_ge p a1'.length with c1 | c1
                · have h1 : decide ((p : Int) < (a1'.length : Int)) = true := by simp; omega
                  rcases Nat.lt_or_ge p b1'.length with c2 | c2
                  · have h2 : decide ((p : Int) < (b1'.length : Int)) = true := by simp; omega
                    have t1 : ((a1'.length : Int) - 1 - (p : Int)).toNat = a1'.length - 1 - p := by omega
                    have t2 : ((b1'.length : Int) - 1 - (p : Int)).toNat = b1'.length - 1 - p := by omega
                    have g1 : a1'[a1'.length - 1 - p]? = some (a1'[a1'.length - 1 - p]'(by omega)) := List.getElem?_eq_getElem _
                    have g2 : b1'[b1'.length - 1 - p]? = some (b1'[b1'.length - 1 - p]'(by omega)) := List.getElem?_eq_getElem _
                    have h3 : decide (a1'[a1'.length - 1 - p]'(by omega) = b1'[b1'.length - 1 - p]'(by omega)) = false := by simpa using hsend c1 c2 g1 g2
                    (try simp only [h1, h2, t1, t2, g1, g2, h3, hsR_clr, u1, u2, hA1, hB1, ex,reduceIte,reduceCtorEq,Nat.reduceEqDiff,Nat.reduceLT,Nat.reduceLeDiff,Nat.reduceAdd,Nat.reduceSub,Nat.reduceMul,Int.reduceAdd,Int.reduceSub,Int.reduceMul,Int.reduceNeg,Int.reduceLE,Int.reduceLT,Int.reduceEq,Int.reduceToNat]) <;> repeat ((with_reducible refine Req.intro ?_ ?_); (first | omega | (simp <;> omega)); try simp only [h1, h2, t1, t2, g1, g2, h3, hsR_clr, u1, u2, hA1, hB1, ex,reduceIte,reduceCtorEq,Nat.reduceEqDiff,Nat.reduceLT,Nat.reduceLeDiff,Nat.reduceAdd,Nat.reduceSub,Nat.reduceMul,Int.reduceAdd,Int.reduceSub,Int.reduceMul,Int.reduceNeg,Int.reduceLE,Int.reduceLT,Int.reduceEq,Int.reduceToNat])
                    exact share.out
                  · have h2 : decide ((p : Int) < (b1'.length : Int)) = false := by simp; omega
                    (try simp only [h1, h2, hsR_clr, u1, u2, hA1, hB1, ex,reduceIte,reduceCtorEq,Nat.reduceEqDiff,Nat.reduceLT,Nat.reduceLeDiff,Nat.reduceAdd,Nat.reduceSub,Nat.reduceMul,Int.reduceAdd,Int.reduceSub,Int.reduceMul,Int.reduceNeg,Int.reduceLE,Int.reduceLT,Int.reduceEq,Int.reduceToNat]) <;> repeat ((with_reducible refine Req.intro ?_ ?_); (first | omega | (simp <;> omega)); try simp only [h1, h2, hsR_clr, u1, u2, hA1, hB1, ex,reduceIte,reduceCtorEq,Nat.reduceEqDiff,Nat.reduceLT,Nat.reduceLeDiff,Nat.reduceAdd,Nat.reduceSub,Nat.reduceMul,Int.reduceAdd,Int.reduceSub,Int.reduceMul,Int.reduceNeg,Int.reduceLE,Int.reduceLT,Int.reduceEq,Int.reduceToNat])
                    exact share.out
                · have h1 : decide ((p : Int) < (a1'.length : Int)) = false := by simp; omega
                  (try simp only [h1, hsR_clr, u1, u2, hA1, hB1, ex,reduceIte,reduceCtorEq,Nat.reduceEqDiff,Nat.reduceLT,Nat.reduceLeDiff,Nat.reduceAdd,Nat.reduceSub,Nat.reduceMul,Int.reduceAdd,Int.reduceSub,Int.reduceMul,Int.reduceNeg,Int.reduceLE,Int.reduceLT,Int.reduceEq,Int.reduceToNat]) <;> repeat ((with_reducible refine Req.intro ?_ ?_); (first | omega | (simp <;> omega)); try simp only [h1, hsR_clr, u1, u2, hA1, hB1, ex,reduceIte,reduceCtorEq,Nat.reduceEqDiff,Nat.reduceLT,Nat.reduceLeDiff,Nat.reduceAdd,Nat.reduceSub,Nat.reduceMul,Int.reduceAdd,Int.reduceSub,Int.reduceMul,Int.reduceNeg,Int.reduceLE,Int.reduceLT,Int.reduceEq,Int.reduceToNat])
                  exact share.out
              · have aF := fun (w : Bool) (b c : Nat) (X : List Rn) (hX : X.length ≤ 1000000) k t => app_R (b := b) (n := c) (out := X) (⟨a2.length + (i + q), b2.length + (j + q), p⟩ : Rn) (A := (i : Int) + (q : Int) + (a1'.length : Int) - (p : Int)) (B := (j : Int) + (q : Int) + (b1'.length : Int) - (p : Int)) (N := (p : Int)) (w := w) (k := k) (t := t) (by simp only; omega) (by simp only; omega) rfl hX
                rcases Classical.em (a2 = []) with e | e
                · have h1 : decide ((a2.length : Int) > 0) = false := by rw [e]; decide
                  have hZ3 : out ++ shR i j Z = out1 ++ [⟨a2.length + (i + q), b2.length + (j + q), p⟩] := by
                    rw [hZ2, if_pos (.inl e)]; simp [shR]
                  have aG := fun w c k t => aF w n c out1 (by omega) k t
                  (try simp only [h1, hsR_clr, aG, ex,reduceIte,reduceCtorEq,Nat.reduceEqDiff,Nat.reduceLT,Nat.reduceLeDiff,Nat.reduceAdd,Nat.reduceSub,Nat.reduceMul,Int.reduceAdd,Int.reduceSub,Int.reduceMul,Int.reduceNeg,Int.reduceLE,Int.reduceLT,Int.reduceEq,Int.reduceToNat]) <;> repeat ((with_reducible refine Req.intro ?_ ?_); (first | omega | (simp <;> omega)); try simp only [h1, hsR_clr, aG, ex,reduceIte,reduceCtorEq,Nat.reduceEqDiff,Nat.reduceLT,Nat.reduceLeDiff,Nat.reduceAdd,Nat.reduceSub,Nat.reduceMul,Int.reduceAdd,Int.reduceSub,Int.reduceMul,Int.reduceNeg,Int.reduceLE,Int.reduceLT,Int.reduceEq,Int.reduceToNat])
                  exact ⟨_, by rw [hZ3], by rw [hZ3]⟩
                rcases Classical.em (b2 = []) with e' | e'
                · have l1 : 0 < a2.length := List.length_pos_iff.2 e
                  have h1 : decide ((a2.length : Int) > 0) = true := by simp; omega
                  have h2 : decide ((b2.length : Int) > 0) = false := by rw [e']; decide
                  have hZ3 : out ++ shR i j Z = out1 ++ [⟨a2.length + (i + q), b2.length + (j + q), p⟩] := by
                    rw [hZ2, if_pos (.inr e')]; simp [shR]
                  have aG := fun w c k t => aF w n c out1 (by omega) k t
                  (try simp only [h1, h2, hsR_clr, aG, ex,reduceIte,reduceCtorEq,Nat.reduceEqDiff,Nat.reduceLT,Nat.reduceLeDiff,Nat.reduceAdd,Nat.reduceSub,Nat.reduceMul,Int.reduceAdd,Int.reduceSub,Int.reduceMul,Int.reduceNeg,Int.reduceLE,Int.reduceLT,Int.reduceEq,Int.reduceToNat]) <;> repeat ((with_reducible refine Req.intro ?_ ?_); (first | omega | (simp <;> omega)); try simp only [h1, h2, hsR_clr, aG, ex,reduceIte,reduceCtorEq,Nat.reduceEqDiff,Nat.reduceLT,Nat.reduceLeDiff,Nat.reduceAdd,Nat.reduceSub,Nat.reduceMul,Int.reduceAdd,Int.reduceSub,Int.reduceMul,Int.reduceNeg,Int.reduceLE,Int.reduceLT,Int.reduceEq,Int.reduceToNat])
                  exact ⟨_, by rw [hZ3], by rw [hZ3]⟩
                have l1 : 0 < a2.length := List.length_pos_iff.2 e
                have l2 : 0 < b2.length := List.length_pos_iff.2 e'
                have h1 : decide ((a2.length : Int) > 0) = true := by simp; omega
                have h2 : decide ((b2.length : Int) > 0) = true := by simp; omega
                rw [if_neg (fun h => h.elim e e')] at hZ2
                unfold midz at hZ2
                have hPf := pRes_fits a2 b2
                (try simp only [h1, h2, hsR_clr, ex,reduceIte,reduceCtorEq,Nat.reduceEqDiff,Nat.reduceLT,Nat.reduceLeDiff,Nat.reduceAdd,Nat.reduceSub,Nat.reduceMul,Int.reduceAdd,Int.reduceSub,Int.reduceMul,Int.reduceNeg,Int.reduceLE,Int.reduceLT,Int.reduceEq,Int.reduceToNat]) <;> repeat ((with_reducible refine Req.intro ?_ ?_); (first | omega | (simp <;> omega)); try simp only [h1, h2, hsR_clr, ex,reduceIte,reduceCtorEq,Nat.reduceEqDiff,Nat.reduceLT,Nat.reduceLeDiff,Nat.reduceAdd,Nat.reduceSub,Nat.reduceMul,Int.reduceAdd,Int.reduceSub,Int.reduceMul,Int.reduceNeg,Int.reduceLE,Int.reduceLT,Int.reduceEq,Int.reduceToNat])
                refine CallA.eq rfl (anchor_spec _ _ a2 b2 (by omega) (by omega)) rfl ?_
                cases hf : (pRes a2 b2).found with
                | true =>
                  have hP := hPf hf
                  rw [if_pos hf] at hZ2
                  generalize (pRes a2 b2).best = r at *
                  have p1 := hP.2.1
                  have p2 := hP.2.2.1
                  have p3 := hP.2.2.2
                  have q1 := stz_len k (a2.take r.A) (b2.take r.B) (by simp; omega) (by simp; omega)
                  have q2 := stz_len k (a2.drop (r.A + r.N)) (b2.drop (r.B + r.N)) (by simp; omega) (by simp; omega)
                  have lt1 : (a2.take r.A).length = r.A := by simp; omega
                  have lt2 : (b2.take r.B).length = r.B := by simp; omega
                  have ld1 : (a2.drop (r.A + r.N)).length = a2.length - (r.A + r.N) := by simp
                  have ld2 : (b2.drop (r.B + r.N)).length = b2.length - (r.B + r.N) := by simp
                  (try simp only [hsR_clr, ex,reduceIte,reduceCtorEq,Nat.reduceEqDiff,Nat.reduceLT,Nat.reduceLeDiff,Nat.reduceAdd,Nat.reduceSub,Nat.reduceMul,Int.reduceAdd,Int.reduceSub,Int.reduceMul,Int.reduceNeg,Int.reduceLE,Int.reduceLT,Int.reduceEq,Int.reduceToNat]) <;> repeat ((with_reducible refine Req.intro ?_ ?_); (first | omega | (simp <;> omega)); try simp only [hsR_clr, ex,reduceIte,reduceCtorEq,Nat.reduceEqDiff,Nat.reduceLT,Nat.reduceLeDiff,Nat.reduceAdd,Nat.reduceSub,Nat.reduceMul,Int.reduceAdd,Int.reduceSub,Int.reduceMul,Int.reduceNeg,Int.reduceLE,Int.reduceLT,Int.reduceEq,Int.reduceToNat])
                  refine CallHD.any (ih _ _ (a2.take r.A) (b2.take r.B) out1 (i + q) (j + q) n _ (by omega) (by omega) (by omega) (by omega) (by omega) (by omega)) ?_
                  intro r1 h1' n1 hx
                  have hx1 := hx.choose_spec
                  generalize hx.choose = bk1 at hx1
                  have hr1 := hx1.1
                  have hh1 := hx1.2
                  clear hx hx1
                  have lo2 : (out1 ++ shR (i + q) (j + q) (stz k (a2.take r.A) (b2.take r.B))).length = out1.length + (stz k (a2.take r.A) (b2.take r.B)).length := by rw [List.length_append, shR_len]
                  have hZ3 : out ++ shR i j Z = (((out1 ++ shR (i + q) (j + q) (stz k (a2.take r.A) (b2.take r.B))) ++ [⟨i + q + r.A, j + q + r.B, r.N⟩]) ++ shR (i + q + r.A + r.N) (j + q + r.B + r.N) (stz k (a2.drop (r.A + r.N)) (b2.drop (r.B + r.N)))) ++ [⟨a2.length + (i + q), b2.length + (j + q), p⟩] := by
                    rw [hZ2, shR_app, show ∀ (x : Rn) (l : List Rn), shR (i + q) (j + q) (x :: l) = movR (i + q) (j + q) x :: shR (i + q) (j + q) l from fun _ _ => rfl, shR_shR]
                    rw [show movR (i + q) (j + q) r = ⟨i + q + r.A, j + q + r.B, r.N⟩ by simp only [movR]; rw [Nat.add_comm r.A, Nat.add_comm r.B]]
                    rw [show r.A + r.N + (i + q) = i + q + r.A + r.N by omega, show r.B + r.N + (j + q) = j + q + r.B + r.N by omega]
                    simp only [List.append_assoc, List.cons_append, List.nil_append]
                  generalize out1 ++ shR (i + q) (j + q) (stz k (a2.take r.A) (b2.take r.B)) = out2 at *
                  have aR := fun (w : Bool) (c : Nat) k t => app_R (b := bk1) (n := c) (out := out2) (⟨i + q + r.A, j + q + r.B, r.N⟩ : Rn) (A := (i : Int) + (q : Int) + (r.A : Int)) (B := (j : Int) + (q : Int) + (r.B : Int)) (N := (r.N : Int)) (w := w) (k := k) (t := t) (by simp only; omega) (by simp only; omega) rfl (by omega)
                  (try simp only [hr1, hh1, hsR_clr, aR, ex,reduceIte,reduceCtorEq,Nat.reduceEqDiff,Nat.reduceLT,Nat.reduceLeDiff,Nat.reduceAdd,Nat.reduceSub,Nat.reduceMul,Int.reduceAdd,Int.reduceSub,Int.reduceMul,Int.reduceNeg,Int.reduceLE,Int.reduceLT,Int.reduceEq,Int.reduceToNat]) <;> repeat ((with_reducible refine Req.intro ?_ ?_); (first | omega | (simp <;> omega)); try simp only [hr1, hh1, hsR_clr, aR, ex,reduceIte,reduceCtorEq,Nat.reduceEqDiff,Nat.reduceLT,Nat.reduceLeDiff,Nat.reduceAdd,Nat.reduceSub,Nat.reduceMul,Int.reduceAdd,Int.reduceSub,Int.reduceMul,Int.reduceNeg,Int.reduceLE,Int.reduceLT,Int.reduceEq,Int.reduceToNat])
                  have lo3 : (out2 ++ [(⟨i + q + r.A, j + q + r.B, r.N⟩ : Rn)]).length = out2.length + 1 := by simp
                  generalize out2 ++ [(⟨i + q + r.A, j + q + r.B, r.N⟩ : Rn)] = out3 at *
                  refine CallHD.any (ih _ _ (a2.drop (r.A + r.N)) (b2.drop (r.B + r.N)) out3 (i + q + r.A + r.N) (j + q + r.B + r.N) _ _ (by omega) (by omega) (by omega) (by omega) (by omega) (by omega)) ?_
                  intro r2 h2' n2 hx
                  have hx1 := hx.choose_spec
                  generalize hx.choose = bk2 at hx1
                  have hr2 := hx1.1
                  have hh2 := hx1.2
                  clear hx hx1
                  have lo4 : (out3 ++ shR (i + q + r.A + r.N) (j + q + r.B + r.N) (stz k (a2.drop (r.A + r.N)) (b2.drop (r.B + r.N)))).length = out3.length + (stz k (a2.drop (r.A + r.N)) (b2.drop (r.B + r.N))).length := by rw [List.length_append, shR_len]
                  generalize out3 ++ shR (i + q + r.A + r.N) (j + q + r.B + r.N) (stz k (a2.drop (r.A + r.N)) (b2.drop (r.B + r.N))) = out4 at *
                  have aG := fun w c k t => aF w bk2 c out4 (by omega) k t
                  (try simp only [hr2, hh2, hsR_clr, aG, ex,reduceIte,reduceCtorEq,Nat.reduceEqDiff,Nat.reduceLT,Nat.reduceLeDiff,Nat.reduceAdd,Nat.reduceSub,Nat.reduceMul,Int.reduceAdd,Int.reduceSub,Int.reduceMul,Int.reduceNeg,Int.reduceLE,Int.reduceLT,Int.reduceEq,Int.reduceToNat]) <;> repeat ((with_reducible refine Req.intro ?_ ?_); (first | omega | (simp <;> omega)); try simp only [hr2, hh2, hsR_clr, aG, ex,reduceIte,reduceCtorEq,Nat.reduceEqDiff,Nat.reduceLT,Nat.reduceLeDiff,Nat.reduceAdd,Nat.reduceSub,Nat.reduceMul,Int.reduceAdd,Int.reduceSub,Int.reduceMul,Int.reduceNeg,Int.reduceLE,Int.reduceLT,Int.reduceEq,Int.reduceToNat])
                  exact ⟨_, by rw [hZ3], by rw [hZ3]⟩
                | false =>
                  rw [if_neg (by rw [hf]; decide)] at hZ2
                  generalize (pRes a2 b2).best = r at *
                  (try simp only [hsR_clr, ex,reduceIte,reduceCtorEq,Nat.reduceEqDiff,Nat.reduceLT,Nat.reduceLeDiff,Nat.reduceAdd,Nat.reduceSub,Nat.reduceMul,Int.reduceAdd,Int.reduceSub,Int.reduceMul,Int.reduceNeg,Int.reduceLE,Int.reduceLT,Int.reduceEq,Int.reduceToNat]) <;> repeat ((with_reducible refine Req.intro ?_ ?_); (first | omega | (simp <;> omega)); try simp only [hsR_clr, ex,reduceIte,reduceCtorEq,Nat.reduceEqDiff,Nat.reduceLT,Nat.reduceLeDiff,Nat.reduceAdd,Nat.reduceSub,Nat.reduceMul,Int.reduceAdd,Int.reduceSub,Int.reduceMul,Int.reduceNeg,Int.reduceLE,Int.reduceLT,Int.reduceEq,Int.reduceToNat])
                  have hsm := leastEd_small a2 b2 (by omega) (by omega)
                  refine CallA.eq rfl (least_spec _ _ a2 b2 (by omega) (by omega)) rfl ?_
                  (try simp only [hsR_clr, ex,reduceIte,reduceCtorEq,Nat.reduceEqDiff,Nat.reduceLT,Nat.reduceLeDiff,Nat.reduceAdd,Nat.reduceSub,Nat.reduceMul,Int.reduceAdd,Int.reduceSub,Int.reduceMul,Int.reduceNeg,Int.reduceLE,Int.reduceLT,Int.reduceEq,Int.reduceToNat]) <;> repeat ((with_reducible refine Req.intro ?_ ?_); (first | omega | (simp <;> omega)); try simp only [hsR_clr, ex,reduceIte,reduceCtorEq,Nat.reduceEqDiff,Nat.reduceLT,Nat.reduceLeDiff,Nat.reduceAdd,Nat.reduceSub,Nat.reduceMul,Int.reduceAdd,Int.reduceSub,Int.reduceMul,Int.reduceNeg,Int.reduceLE,Int.reduceLT,Int.reduceEq,Int.reduceToNat])
                  refine CallA.eq rfl (unchanged_spec _ (leastEd a2 b2) a2.length hsm.1 (by omega)) rfl ?_
                  have hlr : unch a2.length (leastEd a2 b2) 0 0 = leastRn a2 b2 := rfl
                  have hll : (leastRn a2 b2).length ≤ a2.length + b2.length + 2 := by
                    have := unch_len a2.length (leastEd a2 b2) 0 0
                    unfold leastRn; omega
                  have hbd := Com.fitall (leastRn_com a2 b2 (by omega) (by omega)).1
                  rw [hlr]
                  generalize leastRn a2 b2 = l at *
                  (try simp only [hsR_clr, ex,reduceIte,reduceCtorEq,Nat.reduceEqDiff,Nat.reduceLT,Nat.reduceLeDiff,Nat.reduceAdd,Nat.reduceSub,Nat.reduceMul,Int.reduceAdd,Int.reduceSub,Int.reduceMul,Int.reduceNeg,Int.reduceLE,Int.reduceLT,Int.reduceEq,Int.reduceToNat]) <;> repeat ((with_reducible refine Req.intro ?_ ?_); (first | omega | (simp <;> omega)); try simp only [hsR_clr, ex,reduceIte,reduceCtorEq,Nat.reduceEqDiff,Nat.reduceLT,Nat.reduceLeDiff,Nat.reduceAdd,Nat.reduceSub,Nat.reduceMul,Int.reduceAdd,Int.reduceSub,Int.reduceMul,Int.reduceNeg,Int.reduceLE,Int.reduceLT,Int.reduceEq,Int.reduceToNat])
                  refine loopI fun L3 hL3 => ?_
                  (try simp only [hsR_clr, ex,reduceIte,reduceCtorEq,Nat.reduceEqDiff,Nat.reduceLT,Nat.reduceLeDiff,Nat.reduceAdd,Nat.reduceSub,Nat.reduceMul,Int.reduceAdd,Int.reduceSub,Int.reduceMul,Int.reduceNeg,Int.reduceLE,Int.reduceLT,Int.reduceEq,Int.reduceToNat]) <;> repeat ((with_reducible refine Req.intro ?_ ?_); (first | omega | (simp <;> omega)); try simp only [hsR_clr, ex,reduceIte,reduceCtorEq,Nat.reduceEqDiff,Nat.reduceLT,Nat.reduceLeDiff,Nat.reduceAdd,Nat.reduceSub,Nat.reduceMul,Int.reduceAdd,Int.reduceSub,Int.reduceMul,Int.reduceNeg,Int.reduceLE,Int.reduceLT,Int.reduceEq,Int.reduceToNat])
                  have key3 : ∀ (m3 p3 bk3 c3 : Nat) (out3 : List Rn), p3 + m3 = l.length → out3.length = out1.length + p3 → out1 ++ shR (i + q) (j + q) l = out3 ++ shR (i + q) (j + q) (l.drop p3) →
                      L3 (L23_3 (hsR bk3 out3) (.int .i64 ((i : Int) + (q : Int))) (.int .i64 ((j : Int) + (q : Int))) (.ptr (n + 1) 3 0 0) (.sl true 3 (l.map rnV)) (.int .i64 l.length) (.int .i64 p3) (n + 1) [.int .i64 ((i : Int) + (q : Int) + (a1'.length : Int) - (p : Int)), .int .i64 ((j : Int) + (q : Int) + (b1'.length : Int) - (p : Int)), .int .i64 (p : Int)] (oH bk3 out3) c3) := by
                    intro m3
                    induction m3 with
                    | zero =>
                      intro p3 bk3 c3 out3 hp3 ho3 he3
                      apply hL3
                      simp only [L23_3, l23_3, ex,reduceIte,reduceCtorEq,Nat.reduceEqDiff,Nat.reduceLT,Nat.reduceLeDiff,Nat.reduceAdd,Nat.reduceSub,Nat.reduceMul,Int.reduceAdd,Int.reduceSub,Int.reduceMul,Int.reduceNeg,Int.reduceLE,Int.reduceLT,Int.reduceEq,Int.reduceToNat]
                      have h1 : decide ((p3 : Int) < (l.length : Int)) = false := by simp; omega
                      rw [List.drop_of_length_le (by omega)] at he3
                      have aG := fun w c k t => aF w bk3 c out3 (by omega) k t
                      have hZ3 : out ++ shR i j Z = out3 ++ [⟨a2.length + (i + q), b2.length + (j + q), p⟩] := by
                        rw [hZ2, he3]; simp [shR]
                      (try simp only [h1, hsR_clr, aG, ex,reduceIte,reduceCtorEq,Nat.reduceEqDiff,Nat.reduceLT,Nat.reduceLeDiff,Nat.reduceAdd,Nat.reduceSub,Nat.reduceMul,Int.reduceAdd,Int.reduceSub,Int.reduceMul,Int.reduceNeg,Int.reduceLE,Int.reduceLT,Int.reduceEq,Int.reduceToNat]) <;> repeat ((with_reducible refine Req.intro ?_ ?_); (first | omega | (simp <;> omega)); try simp only [h1, hsR_clr, aG, ex,reduceIte,reduceCtorEq,Nat.reduceEqDiff,Nat.reduceLT,Nat.reduceLeDiff,Nat.reduceAdd,Nat.reduceSub,Nat.reduceMul,Int.reduceAdd,Int.reduceSub,Int.reduceMul,Int.reduceNeg,Int.reduceLE,Int.reduceLT,Int.reduceEq,Int.reduceToNat])
                      exact ⟨_, by rw [hZ3], by rw [hZ3]⟩
                    | succ m3 ih3 =>
                      intro p3 bk3 c3 out3 hp3 ho3 he3
                      apply hL3
                      simp only [L23_3, l23_3, ex,reduceIte,reduceCtorEq,Nat.reduceEqDiff,Nat.reduceLT,Nat.reduceLeDiff,Nat.reduceAdd,Nat.reduceSub,Nat.reduceMul,Int.reduceAdd,Int.reduceSub,Int.reduceMul,Int.reduceNeg,Int.reduceLE,Int.reduceLT,Int.reduceEq,Int.reduceToNat]
                      have h1 : decide ((p3 : Int) < (l.length : Int)) = true := by simp; omega
                      have g1 : l[p3]? = some (l[p3]'(by omega)) := List.getElem?_eq_getElem _
                      have hb3 := hbd (l[p3]'(by omega)) (List.getElem_mem _)
                      rw [List.drop_eq_getElem_cons (by omega)] at he3
                      generalize hx : l[p3]'(by omega) = r3 at g1 hb3 he3
                      have aR := fun (w : Bool) (c : Nat) k t => app_R (b := bk3) (n := c) (out := out3) (⟨i + q + r3.A, j + q + r3.B, r3.N⟩ : Rn) (A := (i : Int) + (q : Int) + (r3.A : Int)) (B := (j : Int) + (q : Int) + (r3.B : Int)) (N := (r3.N : Int)) (w := w) (k := k) (t := t) (by simp only; omega) (by simp only; omega) rfl (by omega)
                      have hb4 := hb3.1
                      have hb5 := hb3.2
                      (try simp only [h1, g1, rnV, hsR_clr, aR, ex,reduceIte,reduceCtorEq,Nat.reduceEqDiff,Nat.reduceLT,Nat.reduceLeDiff,Nat.reduceAdd,Nat.reduceSub,Nat.reduceMul,Int.reduceAdd,Int.reduceSub,Int.reduceMul,Int.reduceNeg,Int.reduceLE,Int.reduceLT,Int.reduceEq,Int.reduceToNat]) <;> repeat ((with_reducible refine Req.intro ?_ ?_); (first | omega | (simp <;> omega)); try simp only [h1, g1, rnV, hsR_clr, aR, ex,reduceIte,reduceCtorEq,Nat.reduceEqDiff,Nat.reduceLT,Nat.reduceLeDiff,Nat.reduceAdd,Nat.reduceSub,Nat.reduceMul,Int.reduceAdd,Int.reduceSub,Int.reduceMul,Int.reduceNeg,Int.reduceLE,Int.reduceLT,Int.reduceEq,Int.reduceToNat])
                      refine ih3 (p3 + 1) _ _ _ (by omega) (by simp; omega) ?_
                      rw [he3]
                      simp only [shR, List.map_cons, movR, List.append_assoc, List.cons_append, List.nil_append]
                      rw [Nat.add_comm r3.A, Nat.add_comm r3.B]
                  exact key3 l.length 0 n _ out1 (Nat.zero_add _) rfl (by simp)
          exact key2 m 0 (Nat.zero_add _)
    exact key1 p 0 (Nat.zero_add _)
end Go.Proofs.Ytmmcepbcjlopdaa.E.Hs

/- histo.Script: walked. Conditions: none. -/
namespace Go.Proofs.Ytmmcepbcjlopdaa.E.Hs
set_option linter.unusedVariables false
set_option linter.unusedSimpArgs false
set_option maxHeartbeats 20000000
set_option maxRecDepth 100000

/-- The runs that stay. -/
def keptR (a b : List S) : List Rn := (stz (a.length + b.length + 1) a b).filter nz
def scriptE (a b : List S) : List Ed := edsOf a.length b.length (keptR a b) 0 0
theorem keptR_len (a b : List S) (ha : a.length ≤ 4096) (hb : b.length ≤ 4096) : (keptR a b).length ≤ 4 * (a.length + b.length) + 2 :=
  Nat.le_trans (List.length_filter_le _ _) (stz_len _ a b (by omega) (by omega))
theorem keptR_com (a b : List S) (ha : a.length ≤ 4096) (hb : b.length ≤ 4096) : Com a b (keptR a b) 0 0 := stz_com _ a b ha hb
theorem stz_ne (k : Nat) (a b : List S) : stz (k + 1) a b ≠ [] := by rw [stz_succ]; simp
theorem map_rnV_no : ∀ l : List Rn, (l.map rnV).all noH2 = true
  | [] => rfl
  | r :: l => by simp only [List.map_cons, List.all_cons, map_rnV_no l, Bool.and_true]; rfl
theorem frz_R {b m : Nat} {L : List V} {l : List Rn} {n : Nat} {k : V × Heap × Nat → Prop} {t : Tag k} (h1 : l.length ≤ L.length) (h2 : L.take l.length = l.map rnV) (hall : L.all noH2 = true) : WK (hf (.frz 3) [.hs b 3 0 l.length] (rH b L) n) k t = k (.sl false 3 (l.map rnV), [], 0) := by
  simp only [hf, rH, get_cons, if_true, WK]
  rw [if_neg (by decide), if_pos ⟨trivial, by omega, hall⟩]
  simp only [W, List.drop_zero, h2, del_cons, if_true]
  rw [show (l.map rnV).map clr2 = l.map rnV by rw [List.map_map]; rfl]

theorem script_spec (o o' : Bool) (a b : List S) (ha : a.length ≤ 4096) (hb : b.length ≤ 4096) :
    Run tab 11 0 [.sl o 1 (a.map .str), .sl o' 1 (b.map .str)] [] 0 (fun r _ _ => r = .sl false 4 ((scriptE a b).map edV)) := by
  refine enter (F := f11) rfl rfl ?_
  simp only [f11, ex,reduceIte,reduceCtorEq,Nat.reduceEqDiff,Nat.reduceLT,Nat.reduceLeDiff,Nat.reduceAdd,Nat.reduceSub,Nat.reduceMul,Int.reduceAdd,Int.reduceSub,Int.reduceMul,Int.reduceNeg,Int.reduceLE,Int.reduceLT,Int.reduceEq,Int.reduceToNat]
  (try simp only [ex,reduceIte,reduceCtorEq,Nat.reduceEqDiff,Nat.reduceLT,Nat.reduceLeDiff,Nat.reduceAdd,Nat.reduceSub,Nat.reduceMul,Int.reduceAdd,Int.reduceSub,Int.reduceMul,Int.reduceNeg,Int.reduceLE,Int.reduceLT,Int.reduceEq,Int.reduceToNat]) <;> repeat ((with_reducible refine Req.intro ?_ ?_); (first | omega | (simp <;> omega)); try simp only [ex,reduceIte,reduceCtorEq,Nat.reduceEqDiff,Nat.reduceLT,Nat.reduceLeDiff,Nat.reduceAdd,Nat.reduceSub,Nat.reduceMul,Int.reduceAdd,Int.reduceSub,Int.reduceMul,Int.reduceNeg,Int.reduceLE,Int.reduceLT,Int.reduceEq,Int.reduceToNat])
  refine CallH.any (stays_spec (a.length + b.length + 1) _ _ a b [] 0 0 0 0 ha hb (by omega) (by omega) (by omega) (by simp; omega)) ?_
  intro r1 h1 n1 hx
  have hx1 := hx.choose_spec
  generalize hx.choose = bk1 at hx1
  have hne := stz_ne (a.length + b.length) a b
  have hr1 := hx1.1
  have hh1 := hx1.2
  clear hx hx1
  rw [List.nil_append, shR_zero, hsR, if_neg hne] at hr1
  rw [List.nil_append, shR_zero, oH, if_neg hne] at hh1
  have hlen := stz_len (a.length + b.length + 1) a b (by omega) (by omega)
  have hk : keptR a b = (stz (a.length + b.length + 1) a b).filter nz := rfl
  have hfit := (keptR_com a b ha hb).fit
  have hkl := keptR_len a b ha hb
  unfold scriptE
  generalize stz (a.length + b.length + 1) a b = Z at *
  generalize keptR a b = K at *
  (try simp only [hr1, hh1, ex,reduceIte,reduceCtorEq,Nat.reduceEqDiff,Nat.reduceLT,Nat.reduceLeDiff,Nat.reduceAdd,Nat.reduceSub,Nat.reduceMul,Int.reduceAdd,Int.reduceSub,Int.reduceMul,Int.reduceNeg,Int.reduceLE,Int.reduceLT,Int.reduceEq,Int.reduceToNat]) <;> repeat ((with_reducible refine Req.intro ?_ ?_); (first | omega | (simp <;> omega)); try simp only [hr1, hh1, ex,reduceIte,reduceCtorEq,Nat.reduceEqDiff,Nat.reduceLT,Nat.reduceLeDiff,Nat.reduceAdd,Nat.reduceSub,Nat.reduceMul,Int.reduceAdd,Int.reduceSub,Int.reduceMul,Int.reduceNeg,Int.reduceLE,Int.reduceLT,Int.reduceEq,Int.reduceToNat])
  refine CallH.any (deleteZ_spec bk1 _ Z (by omega)) ?_
  intro r2 h2 n2 hx
  have hr2 := hx.1
  have hx1 := hx.2.choose_spec
  generalize hx.2.choose = L at hx1
  have hh2 := hx1.1
  have hl2 := hx1.2.1
  have ht2 := hx1.2.2.1
  have ha2 := hx1.2.2.2
  clear hx hx1
  rw [← hk] at hr2 hl2 ht2
  have hfz := fun n k t => frz_R (b := bk1) (m := 0) (n := n) (k := k) (t := t) hl2 ht2 ha2
  (try simp only [hr2, hh2, hfz, ex,reduceIte,reduceCtorEq,Nat.reduceEqDiff,Nat.reduceLT,Nat.reduceLeDiff,Nat.reduceAdd,Nat.reduceSub,Nat.reduceMul,Int.reduceAdd,Int.reduceSub,Int.reduceMul,Int.reduceNeg,Int.reduceLE,Int.reduceLT,Int.reduceEq,Int.reduceToNat]) <;> repeat ((with_reducible refine Req.intro ?_ ?_); (first | omega | (simp <;> omega)); try simp only [hr2, hh2, hfz, ex,reduceIte,reduceCtorEq,Nat.reduceEqDiff,Nat.reduceLT,Nat.reduceLeDiff,Nat.reduceAdd,Nat.reduceSub,Nat.reduceMul,Int.reduceAdd,Int.reduceSub,Int.reduceMul,Int.reduceNeg,Int.reduceLE,Int.reduceLT,Int.reduceEq,Int.reduceToNat])
  refine CallA.eq rfl (fromRuns_spec _ K a.length b.length hfit (by omega) (by omega) (by omega)) rfl ?_
  (try simp only [ex,reduceIte,reduceCtorEq,Nat.reduceEqDiff,Nat.reduceLT,Nat.reduceLeDiff,Nat.reduceAdd,Nat.reduceSub,Nat.reduceMul,Int.reduceAdd,Int.reduceSub,Int.reduceMul,Int.reduceNeg,Int.reduceLE,Int.reduceLT,Int.reduceEq,Int.reduceToNat]) <;> repeat ((with_reducible refine Req.intro ?_ ?_); (first | omega | (simp <;> omega)); try simp only [ex,reduceIte,reduceCtorEq,Nat.reduceEqDiff,Nat.reduceLT,Nat.reduceLeDiff,Nat.reduceAdd,Nat.reduceSub,Nat.reduceMul,Int.reduceAdd,Int.reduceSub,Int.reduceMul,Int.reduceNeg,Int.reduceLE,Int.reduceLT,Int.reduceEq,Int.reduceToNat])
end Go.Proofs.Ytmmcepbcjlopdaa.E.Hs

/- Scripts out of common runs are valid, and cost at least as much as the least one: plain lists. Conditions: none. -/
namespace Go.Proofs.Ytmmcepbcjlopdaa.E.Hs
set_option linter.unusedVariables false
set_option linter.unusedSimpArgs false
set_option maxHeartbeats 20000000

/-- A valid script, from two places on; 'f': nothing stands ahead of it. -/
def VScr (a b : List S) : Bool → Nat → Nat → List Ed → Prop
  | _, i, j, [] => i ≤ a.length ∧ j ≤ b.length ∧ a.drop i = b.drop j
  | f, i, j, e :: r => i ≤ e.f ∧ j ≤ e.t ∧ e.f + e.d ≤ a.length ∧ e.t + e.i ≤ b.length ∧ (e.d ≠ 0 ∨ e.i ≠ 0) ∧ (f = true ∨ i < e.f) ∧ (a.take e.f).drop i = (b.take e.t).drop j ∧ VScr a b false (e.f + e.d) (e.t + e.i) r
theorem Seg.trans {a b : List S} {i j k n : Nat} (h : Seg a b i j k) (h2 : Seg a b (i + k) (j + k) n) : Seg a b i j (k + n) := by
  have h3 := h.2.2
  have h4 := h2.2.2
  refine ⟨by have := h2.1; omega, by have := h2.2.1; omega, ?_⟩
  rw [List.take_add, List.take_add, h3, List.drop_drop, List.drop_drop, h4]
theorem Seg.slice {a b : List S} {i j k : Nat} (h : Seg a b i j k) : (a.take (i + k)).drop i = (b.take (j + k)).drop j := by
  rw [List.drop_take, List.drop_take, Nat.add_sub_cancel_left, Nat.add_sub_cancel_left]; exact h.2.2
theorem vscr_of (a b : List S) : ∀ (l : List Rn) (f : Bool) (i j k : Nat), Com a b l (i + k) (j + k) → Seg a b i j k → (f = true ∨ 0 < k) → VScr a b f i j (edsOf a.length b.length l (i + k) (j + k))
  | [], f, i, j, k, hc, hs, hf => by
    unfold edsOf gap
    by_cases c : i + k < a.length ∨ j + k < b.length
    · rw [if_pos c]
      refine ⟨by simp only; omega, by simp only; omega, by simp only; have := hs.1; omega, by simp only; have := hs.2.1; omega, by simp only; omega, hf.imp id (by simp only; omega), hs.slice, ?_⟩
      have h1 := hs.1
      have h2 := hs.2.1
      simp only
      rw [show i + k + (a.length - (i + k)) = a.length by omega, show j + k + (b.length - (j + k)) = b.length by omega]
      exact ⟨Nat.le_refl _, Nat.le_refl _, by simp⟩
    · rw [if_neg c]
      have h1 := hs.1
      have h2 := hs.2.1
      refine ⟨by omega, by omega, ?_⟩
      have h3 := hs.2.2
      rw [List.take_of_length_le (by simp; omega), List.take_of_length_le (by simp; omega)] at h3
      exact h3
  | r :: l, f, i, j, k, hc, hs, hf => by
    obtain ⟨c1, c2, c3, c4, c5⟩ := hc
    unfold edsOf gap
    by_cases c : i + k < r.A ∨ j + k < r.B
    · rw [if_pos c]
      refine ⟨by simp only; omega, by simp only; omega, by simp only; have := c4.1; omega, by simp only; have := c4.2.1; omega, by simp only; omega, hf.imp id (by simp only; omega), hs.slice, ?_⟩
      simp only
      rw [show i + k + (r.A - (i + k)) = r.A by omega, show j + k + (r.B - (j + k)) = r.B by omega]
      exact vscr_of a b l false r.A r.B r.N c5 c4 (.inr (by omega))
    · rw [if_neg c, List.nil_append]
      have e1 : r.A = i + k := by omega
      have e2 : r.B = j + k := by omega
      rw [e1, e2] at c4 c5 ⊢
      have h9 := vscr_of a b l f i j (k + r.N) (by rw [← Nat.add_assoc, ← Nat.add_assoc]; exact c5) (hs.trans c4) (.inr (by omega))
      rw [← Nat.add_assoc, ← Nat.add_assoc] at h9
      exact h9
theorem script_valid (a b : List S) (ha : a.length ≤ 4096) (hb : b.length ≤ 4096) : VScr a b true 0 0 (scriptE a b) :=
  vscr_of a b (keptR a b) true 0 0 0 (keptR_com a b ha hb) ⟨by omega, by omega, by simp⟩ (.inl rfl)

theorem cost_cons (e : Ed) (l : List Ed) : cost (e :: l) = e.d + e.i + cost l := by simp [cost]
theorem cost_gap (i j x y : Nat) (h1 : i ≤ x) (h2 : j ≤ y) : cost (gap i j x y) = (x - i) + (y - j) := by
  unfold gap
  split
  · simp [cost]
  · simp [cost]; omega
theorem cost_edsOf {a b : List S} : ∀ {l : List Rn} {i j : Nat}, Com a b l i j → cost (edsOf a.length b.length l i j) + 2 * sumN l = (a.length - i) + (b.length - j)
  | [], i, j, h => by
    unfold edsOf
    rw [cost_gap _ _ _ _ h.1 h.2]; simp [sumN]
  | r :: l, i, j, h => by
    have ih := cost_edsOf h.2.2.2.2
    have h1 := h.2.1
    have h2 := h.2.2.1
    have h3 := h.2.2.2.1
    unfold edsOf
    rw [cost_app, cost_gap _ _ _ _ h1 h2]
    have e : sumN (r :: l) = r.N + sumN l := by simp [sumN]
    have := h3.1
    have := h3.2.1
    omega
theorem lcs_drop (a b : List S) (p q : Nat) : lcs (a.drop p) (b.drop q) ≤ lcs a b := by
  have h1 : ∀ (p : Nat) (a b : List S), lcs (a.drop p) b ≤ lcs a b := by
    intro p
    induction p with
    | zero => intro a b; simp
    | succ p ih =>
      intro a b
      cases a with
      | nil => simp
      | cons x a => rw [List.drop_succ_cons]; exact Nat.le_trans (ih a b) (lcs_left x a b)
  have h2 : ∀ (q : Nat) (a b : List S), lcs a (b.drop q) ≤ lcs a b := by
    intro q
    induction q with
    | zero => intro a b; simp
    | succ q ih =>
      intro a b
      cases b with
      | nil => simp
      | cons x b => rw [List.drop_succ_cons]; exact Nat.le_trans (ih a b) (lcs_right x a b)
  exact Nat.le_trans (h1 p _ _) (h2 q _ _)
theorem lcs_seg {a b : List S} : ∀ (n : Nat) {i j : Nat}, Seg a b i j n → lcs (a.drop i) (b.drop j) = n + lcs (a.drop (i + n)) (b.drop (j + n))
  | 0, i, j, h => by simp
  | n + 1, i, j, h => by
    have l1 : i < a.length := by have := h.1; omega
    have l2 : j < b.length := by have := h.2.1; omega
    have h3 := h.2.2
    rw [List.drop_eq_getElem_cons l1, List.drop_eq_getElem_cons l2, List.take_succ_cons, List.take_succ_cons] at h3
    injection h3 with e1 e2
    rw [List.drop_eq_getElem_cons l1, List.drop_eq_getElem_cons l2, e1, lcs_same, lcs_seg n (i := i + 1) (j := j + 1) ⟨by have := h.1; omega, by have := h.2.1; omega, e2⟩]
    rw [show i + 1 + n = i + (n + 1) by omega, show j + 1 + n = j + (n + 1) by omega]; omega
theorem sum_le_lcs {a b : List S} : ∀ {l : List Rn} {i j : Nat}, Com a b l i j → sumN l ≤ lcs (a.drop i) (b.drop j)
  | [], i, j, h => by simp [sumN]
  | r :: l, i, j, h => by
    have ih := sum_le_lcs h.2.2.2.2
    have h1 := h.2.1
    have h2 := h.2.2.1
    have h3 := lcs_seg _ h.2.2.2.1
    have h4 := lcs_drop (a.drop i) (b.drop j) (r.A - i) (r.B - j)
    rw [List.drop_drop, List.drop_drop, show i + (r.A - i) = r.A by omega, show j + (r.B - j) = r.B by omega] at h4
    have e : sumN (r :: l) = r.N + sumN l := by simp [sumN]
    omega
theorem cost_least (a b : List S) (ha : a.length ≤ 4096) (hb : b.length ≤ 4096) : cost (leastEd a b) + 2 * lcs a b = a.length + b.length := by
  unfold leastEd
  rw [if_neg (by omega)]
  exact cost_greedy a b
theorem cost_script (a b : List S) (ha : a.length ≤ 4096) (hb : b.length ≤ 4096) : cost (scriptE a b) + 2 * sumN (keptR a b) = a.length + b.length ∧ sumN (keptR a b) ≤ lcs a b := by
  have h1 := cost_edsOf (keptR_com a b ha hb)
  have h2 := sum_le_lcs (keptR_com a b ha hb)
  exact ⟨by unfold scriptE; omega, by simpa using h2⟩
theorem lcp_self : ∀ a : List S, lcp a a = a.length
  | [] => rfl
  | x :: a => by rw [lcp, if_pos rfl, lcp_self a]; rfl
theorem script_self (a : List S) : scriptE a a = [] := by
  have hk : keptR a a = if 0 < a.length then [⟨0, 0, a.length⟩] else [] := by
    unfold keptR
    rw [stz_succ, lcp_self]
    have hc : cutA a a = [] := by unfold cutA; rw [lcp_self]; simp
    have hc' : cutB a a = [] := by unfold cutB; rw [lcp_self]; simp
    rw [if_pos (.inl hc), hc, hc', List.drop_length]
    rw [show suf [] [] = 0 from rfl]
    by_cases c : 0 < a.length
    · rw [if_pos c, List.filter_cons, if_pos (by unfold nz; rw [decide_eq_true_iff]; simp only; omega)]; rfl
    · rw [if_neg c, List.filter_cons, if_neg (by unfold nz; rw [decide_eq_true_iff]; simp only; omega)]; rfl
  unfold scriptE
  rw [hk]
  by_cases c : 0 < a.length
  · rw [if_pos c]; simp [edsOf, gap]
  · rw [if_neg c]; unfold edsOf gap; rw [if_neg (by omega)]
/-- No number of an edit of a valid script is great. -/
theorem VScr.small {a b : List S} (ha : a.length ≤ 4096) (hb : b.length ≤ 4096) : ∀ {l : List Ed} {f : Bool} {i j : Nat}, VScr a b f i j l → ∀ e ∈ l, e.f ≤ 1000000 ∧ e.d ≤ 1000000 ∧ e.t ≤ 1000000 ∧ e.i ≤ 1000000
  | [], f, i, j, h, e, he => by simp at he
  | x :: l, f, i, j, h, e, he => by
    rcases List.mem_cons.1 he with rfl | he
    · have := h.2.2.1; have := h.2.2.2.1; omega
    · exact VScr.small ha hb h.2.2.2.2.2.2.2 e he
end Go.Proofs.Ytmmcepbcjlopdaa.E.Hs

/- Where each line stands once and both lists follow one order, all common lines are kept: plain lists. Conditions: none. -/
namespace Go.Proofs.Ytmmcepbcjlopdaa.E.Hs
set_option linter.unusedVariables false
set_option linter.unusedSimpArgs false
set_option maxHeartbeats 20000000

/-- The lines rise. -/
def Up (g : S → Nat) (a : List S) : Prop := a.Pairwise fun x y => g x < g y
/-- How many lines of the one stand in the other. -/
def cm (a b : List S) : Nat := a.countP fun x => decide (x ∈ b)
theorem Up.sub {g : S → Nat} {a a' : List S} (h : Up g a) (hs : a'.Sublist a) : Up g a' := h.sublist hs
theorem Up.nodup {g : S → Nat} {a : List S} (h : Up g a) : a.Nodup := h.imp fun {x y} h e => by subst e; omega
theorem lcs_cm : ∀ (n : Nat) (a b : List S), a.length + b.length ≤ n → lcs a b ≤ cm a b
  | 0, a, b, h => by
    have : a = [] := List.eq_nil_of_length_eq_zero (by omega)
    subst this; simp [lcs_nil]
  | n + 1, [], b, h => by simp [lcs_nil]
  | n + 1, x :: a, [], h => by simp [lcs_nil2]
  | n + 1, x :: a, y :: b, h => by
    simp only [List.length_cons] at h
    have mono : ∀ (l l' : List S) (c : List S), (∀ z ∈ l, z ∈ l') → cm c l ≤ cm c l' := fun l l' c hz => by
      unfold cm
      exact List.countP_mono_left fun z _ hq => by simpa using hz z (by simpa using hq)
    by_cases e : x = y
    · subst e
      rw [lcs_same]
      have h1 := lcs_cm n a b (by omega)
      have h2 := mono b (x :: b) a (fun z hz => by simp [hz])
      unfold cm at *
      rw [List.countP_cons_of_pos (by simp)]
      omega
    · rw [lcs_ne e]
      have h1 := lcs_cm n a (y :: b) (by simp; omega)
      have h2 := lcs_cm n (x :: a) b (by simp; omega)
      have h3 := mono b (y :: b) (x :: a) (fun z hz => by simp [hz])
      have h4 : cm a (y :: b) ≤ cm (x :: a) (y :: b) := by
        unfold cm; rw [List.countP_cons]; omega
      omega
/-- Cut at a common piece, nothing common is lost. -/
theorem cm_cut {g : S → Nat} {a1 a2 r b1 b2 : List S} (ha : Up g (a1 ++ r ++ a2)) (hb : Up g (b1 ++ r ++ b2)) (hr : r ≠ []) : cm (a1 ++ r ++ a2) (b1 ++ r ++ b2) ≤ cm a1 b1 + r.length + cm a2 b2 := by
  obtain ⟨z, hz⟩ := List.exists_mem_of_ne_nil r hr
  have pa := List.pairwise_append.1 ha
  have pa1 := List.pairwise_append.1 pa.1
  have pb := List.pairwise_append.1 hb
  have pb1 := List.pairwise_append.1 pb.1
  unfold cm
  rw [List.countP_append, List.countP_append]
  have h1 : a1.countP (fun x => decide (x ∈ b1 ++ r ++ b2)) ≤ a1.countP (fun x => decide (x ∈ b1)) := by
    refine List.countP_mono_left fun x hx hq => ?_
    have h2 : x ∈ b1 ++ r ++ b2 := by simpa using hq
    have h3 := pa1.2.2 x hx z hz
    rcases List.mem_append.1 h2 with h2 | h2
    · rcases List.mem_append.1 h2 with h2 | h2
      · simpa using h2
      · have := pa1.2.2 x hx x h2; omega
    · have := pb.2.2 z (by simp [hz]) x h2; omega
  have h2 : r.countP (fun x => decide (x ∈ b1 ++ r ++ b2)) ≤ r.length := List.countP_le_length
  have h3 : a2.countP (fun x => decide (x ∈ b1 ++ r ++ b2)) ≤ a2.countP (fun x => decide (x ∈ b2)) := by
    refine List.countP_mono_left fun x hx hq => ?_
    have h2 : x ∈ b1 ++ r ++ b2 := by simpa using hq
    have h3 := pa.2.2 z (by simp [hz]) x hx
    rcases List.mem_append.1 h2 with h2 | h2
    · rcases List.mem_append.1 h2 with h2 | h2
      · have := pb1.2.2 x h2 z hz; omega
      · have := pa.2.2 x (by simp [h2]) x hx; omega
    · simpa using h2
  omega
theorem cm_cut0 {g : S → Nat} {a1 a2 r b1 b2 : List S} (ha : Up g (a1 ++ r ++ a2)) (hb : Up g (b1 ++ r ++ b2)) (h0 : r = [] → (a1 = [] ∧ b1 = []) ∨ (a2 = [] ∧ b2 = [])) : cm (a1 ++ r ++ a2) (b1 ++ r ++ b2) ≤ cm a1 b1 + r.length + cm a2 b2 := by
  by_cases hr : r = []
  · subst hr
    rcases h0 rfl with ⟨rfl, rfl⟩ | ⟨rfl, rfl⟩
    · simp [cm]
    · simp [cm]
  · exact cm_cut ha hb hr
theorem sumN_app (l l' : List Rn) : sumN (l ++ l') = sumN l + sumN l' := by simp [sumN]
theorem sumN_shR (x y : Nat) (l : List Rn) : sumN (shR x y l) = sumN l := by
  unfold sumN shR; rw [List.map_map]; rfl
theorem sumN_nz : ∀ l : List Rn, sumN (l.filter nz) = sumN l
  | [] => rfl
  | r :: l => by
    have ih := sumN_nz l
    by_cases c : r.N = 0
    · rw [List.filter_cons, if_neg (by simp [nz, c]), ih]; simp [sumN, c]
    · rw [List.filter_cons, if_pos (by simp [nz, c])]
      simp only [sumN, List.map_cons, List.sum_cons] at ih ⊢
      rw [ih]
theorem sumN_cons (r : Rn) (l : List Rn) : sumN (r :: l) = r.N + sumN l := by simp [sumN]
/-- Without an anchor nothing is common. -/
theorem no_anchor {g : S → Nat} {a b : List S} (ha : Up g a) (h : (pRes a b).found = false) : cm a b = 0 := by
  have h9 := (panchor_is a b).1
  rw [if_neg (by rw [h]; decide)] at h9
  unfold cm
  rw [List.countP_eq_zero]
  intro x hx hq
  have hb : x ∈ b := by simpa using hq
  obtain ⟨i, hi⟩ := List.mem_iff_getElem?.1 hx
  obtain ⟨k, hk⟩ := List.mem_iff_getElem?.1 hb
  have hs := runOf_start (a := a) (b := b) (i := i) (k := k) ⟨x, hi, hk⟩
  refine h9 (runOf a b i k) ⟨hs.1, hs.2.1, ?_⟩
  have hN := hs.2.2
  obtain ⟨y, hy1, hy2⟩ := hs.1.1
  have hl := (List.getElem?_eq_some_iff.1 hy1)
  obtain ⟨l1, e1⟩ := hl
  have hmem : y ∈ (a.drop (runOf a b i k).A).take (runOf a b i k).N := by
    rw [List.drop_eq_getElem_cons l1, e1]
    obtain ⟨m, hm⟩ : ∃ m, (runOf a b i k).N = m + 1 := ⟨(runOf a b i k).N - 1, by omega⟩
    rw [hm, List.take_succ_cons]; simp
  have hle := (fold_min_le a.count ((a.drop (runOf a b i k).A).take (runOf a b i k).N) 65).2 y hmem
  have hc : a.count y ≤ 1 := List.nodup_iff_count.1 ha.nodup y
  unfold rare
  omega
theorem kept_all {g : S → Nat} : ∀ (k : Nat) (a b : List S), a.length ≤ 4096 → b.length ≤ 4096 → a.length + b.length < k → Up g a → Up g b → cm a b ≤ sumN (stz k a b)
  | 0, a, b, _, _, h, _, _ => by omega
  | k + 1, a, b, ha, hb, hk, ua, ub => by
    have hc := cut_len a b
    have hl := lcp_le a b
    have hs := suf_le (a.drop (lcp a b)) (b.drop (lcp a b))
    have s1 := (Seg.lcp a b).2.2
    have s2 := (Seg.suf (a.drop (lcp a b)) (b.drop (lcp a b))).2.2
    simp only [List.length_drop] at hs s2
    rw [List.drop_zero, List.drop_zero] at s1
    have eA : a = [] ++ a.take (lcp a b) ++ (cutA a b ++ (a.drop (lcp a b)).drop (a.length - lcp a b - suf (a.drop (lcp a b)) (b.drop (lcp a b))) ++ []) := by
      unfold cutA; simp only [List.nil_append, List.append_nil, List.take_append_drop]
    have eB : b = [] ++ a.take (lcp a b) ++ (cutB a b ++ (a.drop (lcp a b)).drop (a.length - lcp a b - suf (a.drop (lcp a b)) (b.drop (lcp a b))) ++ []) := by
      have e5 : (a.drop (lcp a b)).drop (a.length - lcp a b - suf (a.drop (lcp a b)) (b.drop (lcp a b))) = (b.drop (lcp a b)).drop (b.length - lcp a b - suf (a.drop (lcp a b)) (b.drop (lcp a b))) := by
        rw [List.take_of_length_le (by simp; omega), List.take_of_length_le (by simp; omega)] at s2
        exact s2
      rw [s1, e5]
      unfold cutB; simp only [List.nil_append, List.append_nil, List.take_append_drop]
    have lp : (a.take (lcp a b)).length = lcp a b := by simp; omega
    have lq : ((a.drop (lcp a b)).drop (a.length - lcp a b - suf (a.drop (lcp a b)) (b.drop (lcp a b)))).length = suf (a.drop (lcp a b)) (b.drop (lcp a b)) := by simp; omega
    have hst := congrArg sumN (stz_succ k a b)
    rw [sumN_cons, sumN_shR, sumN_app, sumN_cons] at hst
    simp only at hst
    rw [show sumN [] = 0 from rfl] at hst
    have mid : cm (cutA a b) (cutB a b) ≤ sumN (if cutA a b = [] ∨ cutB a b = [] then [] else midz k (cutA a b) (cutB a b)) := by
      have uA : Up g (cutA a b) := ua.sub ((List.take_sublist _ _).trans (List.drop_sublist _ _))
      have uB : Up g (cutB a b) := ub.sub ((List.take_sublist _ _).trans (List.drop_sublist _ _))
      split
      · rename_i h
        rcases h with h | h
        · rw [h]; simp [cm]
        · rw [h]; simp [cm]
      · unfold midz
        generalize cutA a b = A at *
        generalize cutB a b = B at *
        split
        · rename_i hf
          have h9 := pRes_fits _ _ hf
          have h8 := (Seg.cand h9.1).2.2
          generalize (pRes A B).best = r at *
          have eA2 : A = A.take r.A ++ (A.drop r.A).take r.N ++ A.drop (r.A + r.N) := by
            rw [List.append_assoc, ← List.drop_drop, List.take_append_drop, List.take_append_drop]
          have eB2 : B = B.take r.B ++ (A.drop r.A).take r.N ++ B.drop (r.B + r.N) := by
            rw [h8, List.append_assoc, ← List.drop_drop, List.take_append_drop, List.take_append_drop]
          have lr : ((A.drop r.A).take r.N).length = r.N := by simp; omega
          have hcut := cm_cut (g := g) (a1 := A.take r.A) (r := (A.drop r.A).take r.N) (a2 := A.drop (r.A + r.N)) (b1 := B.take r.B) (b2 := B.drop (r.B + r.N)) (by rw [← eA2]; exact uA) (by rw [← eB2]; exact uB) (fun e => by rw [e] at lr; simp at lr; omega)
          rw [← eA2, ← eB2, lr] at hcut
          have i1 := kept_all (g := g) k (A.take r.A) (B.take r.B) (by simp; omega) (by simp; omega) (by simp; omega) (uA.sub (List.take_sublist _ _)) (uB.sub (List.take_sublist _ _))
          have i2 := kept_all (g := g) k (A.drop (r.A + r.N)) (B.drop (r.B + r.N)) (by simp; omega) (by simp; omega) (by simp; omega) (uA.sub (List.drop_sublist _ _)) (uB.sub (List.drop_sublist _ _))
          rw [sumN_app, sumN_cons, sumN_shR]
          omega
        · rename_i hf
          rw [no_anchor uA (by simpa using hf)]
          omega
    have c1 := cm_cut0 (g := g) (a1 := []) (b1 := []) (r := a.take (lcp a b)) (a2 := cutA a b ++ (a.drop (lcp a b)).drop (a.length - lcp a b - suf (a.drop (lcp a b)) (b.drop (lcp a b))) ++ []) (b2 := cutB a b ++ (a.drop (lcp a b)).drop (a.length - lcp a b - suf (a.drop (lcp a b)) (b.drop (lcp a b))) ++ []) (by rw [← eA]; exact ua) (by rw [← eB]; exact ub) (fun _ => .inl ⟨rfl, rfl⟩)
    have uA2 : Up g (cutA a b ++ (a.drop (lcp a b)).drop (a.length - lcp a b - suf (a.drop (lcp a b)) (b.drop (lcp a b))) ++ []) := by
      have := ua
      rw [eA] at this
      exact (List.pairwise_append.1 this).2.1
    have uB2 : Up g (cutB a b ++ (a.drop (lcp a b)).drop (a.length - lcp a b - suf (a.drop (lcp a b)) (b.drop (lcp a b))) ++ []) := by
      have := ub
      rw [eB] at this
      exact (List.pairwise_append.1 this).2.1
    have c2 := cm_cut0 uA2 uB2 (fun _ => .inr ⟨rfl, rfl⟩)
    rw [← eA, ← eB, lp] at c1
    rw [lq] at c2
    have z : cm [] [] = 0 := rfl
    omega
theorem once (g : S → Nat) (a b : List S) (ha : a.length ≤ 4096) (hb : b.length ≤ 4096) (ua : Up g a) (ub : Up g b) : cost (scriptE a b) = cost (leastEd a b) := by
  have h1 := kept_all (g := g) (a.length + b.length + 1) a b ha hb (by omega) ua ub
  have h2 := lcs_cm _ a b (Nat.le_refl _)
  have h3 := cost_script a b ha hb
  have h4 := cost_least a b ha hb
  have h5 : sumN (keptR a b) = sumN (stz (a.length + b.length + 1) a b) := sumN_nz _
  omega
end Go.Proofs.Ytmmcepbcjlopdaa.E.Hs

/- Fixed examples of chapter 9: run outright. Conditions: none. -/
namespace Go.Proofs.Ytmmcepbcjlopdaa.E.Hs
set_option linter.unusedVariables false
theorem lives_ev : evF tab 1000 9 0 [] [] 0 = some (.bool true, [], 2) := by kernel_rfl
theorem lives_spec : Run tab 9 0 [] [] 0 (fun r _ _ => r = .bool true) :=
  (run_ev 1000 lives_ev).weaken fun r h n hh => hh.1
end Go.Proofs.Ytmmcepbcjlopdaa.E.Hs

/- The law HistoOnce. Conditions: none. -/
namespace Go.Proofs.Ytmmcepbcjlopdaa.E.Hs
set_option linter.unusedVariables false
set_option linter.unusedSimpArgs false
set_option maxHeartbeats 20000000
set_option maxRecDepth 100000

theorem edsOf_len2 (n m : Nat) : ∀ (l : List Rn) (i j : Nat), (edsOf n m l i j).length ≤ l.length + 1
  | [], i, j => by unfold edsOf gap; split <;> simp
  | r :: l, i, j => by
    have := edsOf_len2 n m l (r.A + r.N) (r.B + r.N)
    unfold edsOf gap
    split <;> (simp; omega)
theorem scriptE_sm2 (a b : List S) (ha : a.length ≤ 4096) (hb : b.length ≤ 4096) : SmallE (scriptE a b) := by
  have h1 := keptR_len a b ha hb
  have h2 := edsOf_len2 a.length b.length (keptR a b) 0 0
  exact ⟨by unfold scriptE; omega, VScr.small ha hb (script_valid a b ha hb)⟩
def gS (s : S) : Nat := (s.headD 0).toNat
def lineS (i : Nat) : S := [UInt8.ofNat (33 + i)]
theorem gS_line {i : Nat} (h : i < 60) : gS (lineS i) = 33 + i := by
  unfold gS lineS
  simp only [List.headD_cons, UInt8.toNat_ofNat']
  omega
theorem up_snoc {l : List S} {i : Nat} (hi : i < 60) (h : Up gS l) (hb : ∀ s ∈ l, gS s < 33 + i) : Up gS (l ++ [lineS i]) := by
  refine List.pairwise_append.2 ⟨h, List.pairwise_singleton _ _, fun x hx y hy => ?_⟩
  rw [List.mem_singleton] at hy
  subst hy
  rw [gS_line hi]
  exact hb x hx
theorem bd_snoc {l : List S} {i : Nat} (hi : i < 60) (hb : ∀ s ∈ l, gS s < 33 + i) : ∀ s ∈ l ++ [lineS i], gS s < 33 + (i + 1) := by
  intro s hs
  rcases List.mem_append.1 hs with hs | hs
  · have := hb s hs; omega
  · rw [List.mem_singleton] at hs; subst hs; rw [gS_line hi]; omega
theorem u8_wrap2 {n : Int} (h0 : 0 ≤ n) (h : n < 256) : IntKind.u8.wrap n = n := by
  unfold IntKind.wrap
  simp [IntKind.bits, IntKind.signed]
  omega
theorem i64_wrap2 {n : Int} (h0 : 0 ≤ n) (h : n < 256) : IntKind.i64.wrap n = n := by
  unfold IntKind.wrap
  simp [IntKind.bits, IntKind.signed]
  omega

theorem law_HistoOnce (n a b : Int) (hn : 0 ≤ n) : Run tab 6 0 [.int .u8 n, .int .u64 a, .int .u64 b] [] 0 (fun r _ _ => r = .bool true) := by
  have hN : ∃ N : Nat, n.tmod 60 = (N : Int) ∧ N < 60 := ⟨(n.tmod 60).toNat, by rw [Int.tmod_eq_emod_of_nonneg hn]; omega, by rw [Int.tmod_eq_emod_of_nonneg hn]; omega⟩
  obtain ⟨N, hN1, hN2⟩ := hN
  refine enter (F := f6) rfl rfl ?_
  simp only [f6, ex,reduceIte,reduceCtorEq,Nat.reduceEqDiff,Nat.reduceLT,Nat.reduceLeDiff,Nat.reduceAdd,Nat.reduceSub,Nat.reduceMul,Int.reduceAdd,Int.reduceSub,Int.reduceMul,Int.reduceNeg,Int.reduceLE,Int.reduceLT,Int.reduceEq,Int.reduceToNat]
  (try simp only [ex,reduceIte,reduceCtorEq,Nat.reduceEqDiff,Nat.reduceLT,Nat.reduceLeDiff,Nat.reduceAdd,Nat.reduceSub,Nat.reduceMul,Int.reduceAdd,Int.reduceSub,Int.reduceMul,Int.reduceNeg,Int.reduceLE,Int.reduceLT,Int.reduceEq,Int.reduceToNat]) <;> repeat ((with_reducible refine Req.intro ?_ ?_); (first | omega | (simp <;> omega)); try simp only [ex,reduceIte,reduceCtorEq,Nat.reduceEqDiff,Nat.reduceLT,Nat.reduceLeDiff,Nat.reduceAdd,Nat.reduceSub,Nat.reduceMul,Int.reduceAdd,Int.reduceSub,Int.reduceMul,Int.reduceNeg,Int.reduceLE,Int.reduceLT,Int.reduceEq,Int.reduceToNat])
  refine loopI fun L hL => ?_
  (try simp only [ex,reduceIte,reduceCtorEq,Nat.reduceEqDiff,Nat.reduceLT,Nat.reduceLeDiff,Nat.reduceAdd,Nat.reduceSub,Nat.reduceMul,Int.reduceAdd,Int.reduceSub,Int.reduceMul,Int.reduceNeg,Int.reduceLE,Int.reduceLT,Int.reduceEq,Int.reduceToNat]) <;> repeat ((with_reducible refine Req.intro ?_ ?_); (first | omega | (simp <;> omega)); try simp only [ex,reduceIte,reduceCtorEq,Nat.reduceEqDiff,Nat.reduceLT,Nat.reduceLeDiff,Nat.reduceAdd,Nat.reduceSub,Nat.reduceMul,Int.reduceAdd,Int.reduceSub,Int.reduceMul,Int.reduceNeg,Int.reduceLE,Int.reduceLT,Int.reduceEq,Int.reduceToNat])
  have key : ∀ (m i c : Nat) (xs ys : List S), i + m = N → Up gS xs → Up gS ys → (∀ s ∈ xs, gS s < 33 + i) → (∀ s ∈ ys, gS s < 33 + i) → xs.length ≤ i → ys.length ≤ i →
      L (L6_1 (.int .u8 n) (.int .u64 a) (.int .u64 b) (.sl true 1 (xs.map .str)) (.sl true 1 (ys.map .str)) (.int .i64 i) [] c) := by
    intro m
    induction m with
    | zero =>
      intro i c xs ys hi ux uy bx vy lx ly
      have w1 : IntKind.i64.wrap (N : Int) = (N : Int) := i64_wrap2 (by omega) (by omega)
      have h1 : decide ((i : Int) < (N : Int)) = false := by simp; omega
      have ho := once gS xs ys (by omega) (by omega) ux uy
      have sm := scriptE_sm2 xs ys (by omega) (by omega)
      have lm := leastEd_small xs ys (by omega) (by omega)
      apply hL
      simp only [L6_1, l6_1, ex,reduceIte,reduceCtorEq,Nat.reduceEqDiff,Nat.reduceLT,Nat.reduceLeDiff,Nat.reduceAdd,Nat.reduceSub,Nat.reduceMul,Int.reduceAdd,Int.reduceSub,Int.reduceMul,Int.reduceNeg,Int.reduceLE,Int.reduceLT,Int.reduceEq,Int.reduceToNat]
      (try simp only [hN1, w1, h1, ex,reduceIte,reduceCtorEq,Nat.reduceEqDiff,Nat.reduceLT,Nat.reduceLeDiff,Nat.reduceAdd,Nat.reduceSub,Nat.reduceMul,Int.reduceAdd,Int.reduceSub,Int.reduceMul,Int.reduceNeg,Int.reduceLE,Int.reduceLT,Int.reduceEq,Int.reduceToNat]) <;> repeat ((with_reducible refine Req.intro ?_ ?_); (first | omega | (simp <;> omega)); try simp only [hN1, w1, h1, ex,reduceIte,reduceCtorEq,Nat.reduceEqDiff,Nat.reduceLT,Nat.reduceLeDiff,Nat.reduceAdd,Nat.reduceSub,Nat.reduceMul,Int.reduceAdd,Int.reduceSub,Int.reduceMul,Int.reduceNeg,Int.reduceLE,Int.reduceLT,Int.reduceEq,Int.reduceToNat])
      refine CallA.eq rfl lives_spec rfl ?_
      (try simp only [ex,reduceIte,reduceCtorEq,Nat.reduceEqDiff,Nat.reduceLT,Nat.reduceLeDiff,Nat.reduceAdd,Nat.reduceSub,Nat.reduceMul,Int.reduceAdd,Int.reduceSub,Int.reduceMul,Int.reduceNeg,Int.reduceLE,Int.reduceLT,Int.reduceEq,Int.reduceToNat]) <;> repeat ((with_reducible refine Req.intro ?_ ?_); (first | omega | (simp <;> omega)); try simp only [ex,reduceIte,reduceCtorEq,Nat.reduceEqDiff,Nat.reduceLT,Nat.reduceLeDiff,Nat.reduceAdd,Nat.reduceSub,Nat.reduceMul,Int.reduceAdd,Int.reduceSub,Int.reduceMul,Int.reduceNeg,Int.reduceLE,Int.reduceLT,Int.reduceEq,Int.reduceToNat])
      refine CallA.eq rfl (script_spec _ _ xs ys (by omega) (by omega)) rfl ?_
      (try simp only [ex,reduceIte,reduceCtorEq,Nat.reduceEqDiff,Nat.reduceLT,Nat.reduceLeDiff,Nat.reduceAdd,Nat.reduceSub,Nat.reduceMul,Int.reduceAdd,Int.reduceSub,Int.reduceMul,Int.reduceNeg,Int.reduceLE,Int.reduceLT,Int.reduceEq,Int.reduceToNat]) <;> repeat ((with_reducible refine Req.intro ?_ ?_); (first | omega | (simp <;> omega)); try simp only [ex,reduceIte,reduceCtorEq,Nat.reduceEqDiff,Nat.reduceLT,Nat.reduceLeDiff,Nat.reduceAdd,Nat.reduceSub,Nat.reduceMul,Int.reduceAdd,Int.reduceSub,Int.reduceMul,Int.reduceNeg,Int.reduceLE,Int.reduceLT,Int.reduceEq,Int.reduceToNat])
      refine CallA.eq rfl (cost_spec _ (scriptE xs ys) sm) rfl ?_
      (try simp only [ex,reduceIte,reduceCtorEq,Nat.reduceEqDiff,Nat.reduceLT,Nat.reduceLeDiff,Nat.reduceAdd,Nat.reduceSub,Nat.reduceMul,Int.reduceAdd,Int.reduceSub,Int.reduceMul,Int.reduceNeg,Int.reduceLE,Int.reduceLT,Int.reduceEq,Int.reduceToNat]) <;> repeat ((with_reducible refine Req.intro ?_ ?_); (first | omega | (simp <;> omega)); try simp only [ex,reduceIte,reduceCtorEq,Nat.reduceEqDiff,Nat.reduceLT,Nat.reduceLeDiff,Nat.reduceAdd,Nat.reduceSub,Nat.reduceMul,Int.reduceAdd,Int.reduceSub,Int.reduceMul,Int.reduceNeg,Int.reduceLE,Int.reduceLT,Int.reduceEq,Int.reduceToNat])
      refine CallA.eq rfl (least_spec _ _ xs ys (by omega) (by omega)) rfl ?_
      (try simp only [ex,reduceIte,reduceCtorEq,Nat.reduceEqDiff,Nat.reduceLT,Nat.reduceLeDiff,Nat.reduceAdd,Nat.reduceSub,Nat.reduceMul,Int.reduceAdd,Int.reduceSub,Int.reduceMul,Int.reduceNeg,Int.reduceLE,Int.reduceLT,Int.reduceEq,Int.reduceToNat]) <;> repeat ((with_reducible refine Req.intro ?_ ?_); (first | omega | (simp <;> omega)); try simp only [ex,reduceIte,reduceCtorEq,Nat.reduceEqDiff,Nat.reduceLT,Nat.reduceLeDiff,Nat.reduceAdd,Nat.reduceSub,Nat.reduceMul,Int.reduceAdd,Int.reduceSub,Int.reduceMul,Int.reduceNeg,Int.reduceLE,Int.reduceLT,Int.reduceEq,Int.reduceToNat])
      refine CallA.eq rfl (cost_spec _ (leastEd xs ys) lm.1) rfl ?_
      (try simp only [ex,reduceIte,reduceCtorEq,Nat.reduceEqDiff,Nat.reduceLT,Nat.reduceLeDiff,Nat.reduceAdd,Nat.reduceSub,Nat.reduceMul,Int.reduceAdd,Int.reduceSub,Int.reduceMul,Int.reduceNeg,Int.reduceLE,Int.reduceLT,Int.reduceEq,Int.reduceToNat]) <;> repeat ((with_reducible refine Req.intro ?_ ?_); (first | omega | (simp <;> omega)); try simp only [ex,reduceIte,reduceCtorEq,Nat.reduceEqDiff,Nat.reduceLT,Nat.reduceLeDiff,Nat.reduceAdd,Nat.reduceSub,Nat.reduceMul,Int.reduceAdd,Int.reduceSub,Int.reduceMul,Int.reduceNeg,Int.reduceLE,Int.reduceLT,Int.reduceEq,Int.reduceToNat])
      rw [ho]; simp
    | succ m ih =>
      intro i c xs ys hi ux uy bx vy lx ly
      have w1 : IntKind.i64.wrap (N : Int) = (N : Int) := i64_wrap2 (by omega) (by omega)
      have w2 : IntKind.u8.wrap (33 + (i : Int)) = 33 + (i : Int) := u8_wrap2 (by omega) (by omega)
      have h1 : decide ((i : Int) < (N : Int)) = true := by simp; omega
      have by1 : bytesOf [.int .u8 (33 + (i : Int))] = some (lineS i) := by
        simp only [bytesOf, Option.map_some, lineS]
        rw [show (33 + (i : Int)).toNat = 33 + i by omega]
      have qa : ∃ A, shF .shr .u64 a (i : Int) = some A := ⟨_, rfl⟩
      have qb : ∃ A, shF .shr .u64 b (i : Int) = some A := ⟨_, rfl⟩
      obtain ⟨A, qa⟩ := qa
      obtain ⟨B, qb⟩ := qb
      have ra : ∃ r, bitsF .and .u64 A 1 = some r := ⟨_, rfl⟩
      have rb : ∃ r, bitsF .and .u64 B 1 = some r := ⟨_, rfl⟩
      obtain ⟨A2, ra⟩ := ra
      obtain ⟨B2, rb⟩ := rb
      have ux2 := up_snoc (i := i) (by omega) ux bx
      have uy2 := up_snoc (i := i) (by omega) uy vy
      have bx2 := bd_snoc (i := i) (by omega) bx
      have vy2 := bd_snoc (i := i) (by omega) vy
      have bx3 : ∀ s ∈ xs, gS s < 33 + (i + 1) := fun s hs => by have := bx s hs; omega
      have vy3 : ∀ s ∈ ys, gS s < 33 + (i + 1) := fun s hs => by have := vy s hs; omega
      have k11 := fun c => ih (i + 1) c _ _ (by omega) ux2 uy2 bx2 vy2 (by simp; omega) (by simp; omega)
      have k10 := fun c => ih (i + 1) c _ _ (by omega) ux2 uy bx2 vy3 (by simp; omega) (by omega)
      have k01 := fun c => ih (i + 1) c _ _ (by omega) ux uy2 bx3 vy2 (by omega) (by simp; omega)
      have k00 := fun c => ih (i + 1) c _ _ (by omega) ux uy bx3 vy3 (by omega) (by omega)
      simp only [List.map_append, List.map_cons, List.map_nil] at k11 k10 k01
      apply hL
      simp only [L6_1, l6_1, ex,reduceIte,reduceCtorEq,Nat.reduceEqDiff,Nat.reduceLT,Nat.reduceLeDiff,Nat.reduceAdd,Nat.reduceSub,Nat.reduceMul,Int.reduceAdd,Int.reduceSub,Int.reduceMul,Int.reduceNeg,Int.reduceLE,Int.reduceLT,Int.reduceEq,Int.reduceToNat]
      (try simp only [hN1, w1, h1, w2, by1, qa, ra, ex,reduceIte,reduceCtorEq,Nat.reduceEqDiff,Nat.reduceLT,Nat.reduceLeDiff,Nat.reduceAdd,Nat.reduceSub,Nat.reduceMul,Int.reduceAdd,Int.reduceSub,Int.reduceMul,Int.reduceNeg,Int.reduceLE,Int.reduceLT,Int.reduceEq,Int.reduceToNat]) <;> repeat ((with_reducible refine Req.intro ?_ ?_); (first | omega | (simp <;> omega)); try simp only [hN1, w1, h1, w2, by1, qa, ra, ex,reduceIte,reduceCtorEq,Nat.reduceEqDiff,Nat.reduceLT,Nat.reduceLeDiff,Nat.reduceAdd,Nat.reduceSub,Nat.reduceMul,Int.reduceAdd,Int.reduceSub,Int.reduceMul,Int.reduceNeg,Int.reduceLE,Int.reduceLT,Int.reduceEq,Int.reduceToNat])
      refine ifB.intro (fun t1 => ?_) (fun t1 => ?_)
      · (try simp only [t1, qb, rb, ex,reduceIte,reduceCtorEq,Nat.reduceEqDiff,Nat.reduceLT,Nat.reduceLeDiff,Nat.reduceAdd,Nat.reduceSub,Nat.reduceMul,Int.reduceAdd,Int.reduceSub,Int.reduceMul,Int.reduceNeg,Int.reduceLE,Int.reduceLT,Int.reduceEq,Int.reduceToNat]) <;> repeat ((with_reducible refine Req.intro ?_ ?_); (first | omega | (simp <;> omega)); try simp only [t1, qb, rb, ex,reduceIte,reduceCtorEq,Nat.reduceEqDiff,Nat.reduceLT,Nat.reduceLeDiff,Nat.reduceAdd,Nat.reduceSub,Nat.reduceMul,Int.reduceAdd,Int.reduceSub,Int.reduceMul,Int.reduceNeg,Int.reduceLE,Int.reduceLT,Int.reduceEq,Int.reduceToNat])
        refine ifB.intro (fun t2 => ?_) (fun t2 => ?_)
        · (try simp only [t2, ex,reduceIte,reduceCtorEq,Nat.reduceEqDiff,Nat.reduceLT,Nat.reduceLeDiff,Nat.reduceAdd,Nat.reduceSub,Nat.reduceMul,Int.reduceAdd,Int.reduceSub,Int.reduceMul,Int.reduceNeg,Int.reduceLE,Int.reduceLT,Int.reduceEq,Int.reduceToNat]) <;> repeat ((with_reducible refine Req.intro ?_ ?_); (first | omega | (simp <;> omega)); try simp only [t2, ex,reduceIte,reduceCtorEq,Nat.reduceEqDiff,Nat.reduceLT,Nat.reduceLeDiff,Nat.reduceAdd,Nat.reduceSub,Nat.reduceMul,Int.reduceAdd,Int.reduceSub,Int.reduceMul,Int.reduceNeg,Int.reduceLE,Int.reduceLT,Int.reduceEq,Int.reduceToNat])
          exact k11 _
        · (try simp only [t2, ex,reduceIte,reduceCtorEq,Nat.reduceEqDiff,Nat.reduceLT,Nat.reduceLeDiff,Nat.reduceAdd,Nat.reduceSub,Nat.reduceMul,Int.reduceAdd,Int.reduceSub,Int.reduceMul,Int.reduceNeg,Int.reduceLE,Int.reduceLT,Int.reduceEq,Int.reduceToNat]) <;> repeat ((with_reducible refine Req.intro ?_ ?_); (first | omega | (simp <;> omega)); try simp only [t2, ex,reduceIte,reduceCtorEq,Nat.reduceEqDiff,Nat.reduceLT,Nat.reduceLeDiff,Nat.reduceAdd,Nat.reduceSub,Nat.reduceMul,Int.reduceAdd,Int.reduceSub,Int.reduceMul,Int.reduceNeg,Int.reduceLE,Int.reduceLT,Int.reduceEq,Int.reduceToNat])
          exact k10 _
      · (try simp only [t1, qb, rb, ex,reduceIte,reduceCtorEq,Nat.reduceEqDiff,Nat.reduceLT,Nat.reduceLeDiff,Nat.reduceAdd,Nat.reduceSub,Nat.reduceMul,Int.reduceAdd,Int.reduceSub,Int.reduceMul,Int.reduceNeg,Int.reduceLE,Int.reduceLT,Int.reduceEq,Int.reduceToNat]) <;> repeat ((with_reducible refine Req.intro ?_ ?_); (first | omega | (simp <;> omega)); try simp only [t1, qb, rb, ex,reduceIte,reduceCtorEq,Nat.reduceEqDiff,Nat.reduceLT,Nat.reduceLeDiff,Nat.reduceAdd,Nat.reduceSub,Nat.reduceMul,Int.reduceAdd,Int.reduceSub,Int.reduceMul,Int.reduceNeg,Int.reduceLE,Int.reduceLT,Int.reduceEq,Int.reduceToNat])
        refine ifB.intro (fun t2 => ?_) (fun t2 => ?_)
        · (try simp only [t2, ex,reduceIte,reduceCtorEq,Nat.reduceEqDiff,Nat.reduceLT,Nat.reduceLeDiff,Nat.reduceAdd,Nat.reduceSub,Nat.reduceMul,Int.reduceAdd,Int.reduceSub,Int.reduceMul,Int.reduceNeg,Int.reduceLE,Int.reduceLT,Int.reduceEq,Int.reduceToNat]) <;> repeat ((with_reducible refine Req.intro ?_ ?_); (first | omega | (simp <;> omega)); try simp only [t2, ex,reduceIte,reduceCtorEq,Nat.reduceEqDiff,Nat.reduceLT,Nat.reduceLeDiff,Nat.reduceAdd,Nat.reduceSub,Nat.reduceMul,Int.reduceAdd,Int.reduceSub,Int.reduceMul,Int.reduceNeg,Int.reduceLE,Int.reduceLT,Int.reduceEq,Int.reduceToNat])
          exact k01 _
        · (try simp only [t2, ex,reduceIte,reduceCtorEq,Nat.reduceEqDiff,Nat.reduceLT,Nat.reduceLeDiff,Nat.reduceAdd,Nat.reduceSub,Nat.reduceMul,Int.reduceAdd,Int.reduceSub,Int.reduceMul,Int.reduceNeg,Int.reduceLE,Int.reduceLT,Int.reduceEq,Int.reduceToNat]) <;> repeat ((with_reducible refine Req.intro ?_ ?_); (first | omega | (simp <;> omega)); try simp only [t2, ex,reduceIte,reduceCtorEq,Nat.reduceEqDiff,Nat.reduceLT,Nat.reduceLeDiff,Nat.reduceAdd,Nat.reduceSub,Nat.reduceMul,Int.reduceAdd,Int.reduceSub,Int.reduceMul,Int.reduceNeg,Int.reduceLE,Int.reduceLT,Int.reduceEq,Int.reduceToNat])
          exact k00 _
  exact key N 0 0 [] [] (Nat.zero_add _) List.Pairwise.nil List.Pairwise.nil (by simp) (by simp) (by simp) (by simp)
end Go.Proofs.Ytmmcepbcjlopdaa.E.Hs
