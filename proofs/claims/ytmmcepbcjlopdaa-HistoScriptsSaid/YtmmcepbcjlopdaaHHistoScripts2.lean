/- What the functions compute, and the law HistoScripts in plain lists: part 2. Conditions: none. -/
import Derived.KernelRfl
import Derived.Test.YtmmcepbcjlopdaaHHistoScripts1
/- Equal scripts: graftagelaw09.Same; graftageref09.moved. Conditions: none. -/
namespace Go.Proofs.Ytmmcepbcjlopdaa.E.Hs
set_option linter.unusedVariables false
set_option linter.unusedSimpArgs false
set_option maxHeartbeats 20000000

theorem sameE_spec (o o' : Bool) (a : List Ed) (ha : a.length ≤ 1000000) :
    Run tab 10 0 [.sl o 4 (a.map edV), .sl o' 4 (a.map edV)] [] 0 (fun r _ _ => r = .bool true) := by
  refine enter (F := f10) rfl rfl ?_
  simp only [f10, ex,reduceIte,reduceCtorEq,Nat.reduceEqDiff,Nat.reduceLT,Nat.reduceLeDiff,Nat.reduceAdd,Nat.reduceSub,Nat.reduceMul,Int.reduceAdd,Int.reduceSub,Int.reduceMul,Int.reduceNeg,Int.reduceLE,Int.reduceLT,Int.reduceEq,Int.reduceToNat]
  (try simp only [ex,reduceIte,reduceCtorEq,Nat.reduceEqDiff,Nat.reduceLT,Nat.reduceLeDiff,Nat.reduceAdd,Nat.reduceSub,Nat.reduceMul,Int.reduceAdd,Int.reduceSub,Int.reduceMul,Int.reduceNeg,Int.reduceLE,Int.reduceLT,Int.reduceEq,Int.reduceToNat]) <;> repeat ((with_reducible refine Req.intro ?_ ?_); (first | omega | (simp <;> omega)); try simp only [ex,reduceIte,reduceCtorEq,Nat.reduceEqDiff,Nat.reduceLT,Nat.reduceLeDiff,Nat.reduceAdd,Nat.reduceSub,Nat.reduceMul,Int.reduceAdd,Int.reduceSub,Int.reduceMul,Int.reduceNeg,Int.reduceLE,Int.reduceLT,Int.reduceEq,Int.reduceToNat])
  refine loopI fun L hL => ?_
  (try simp only [ex,reduceIte,reduceCtorEq,Nat.reduceEqDiff,Nat.reduceLT,Nat.reduceLeDiff,Nat.reduceAdd,Nat.reduceSub,Nat.reduceMul,Int.reduceAdd,Int.reduceSub,Int.reduceMul,Int.reduceNeg,Int.reduceLE,Int.reduceLT,Int.reduceEq,Int.reduceToNat]) <;> repeat ((with_reducible refine Req.intro ?_ ?_); (first | omega | (simp <;> omega)); try simp only [ex,reduceIte,reduceCtorEq,Nat.reduceEqDiff,Nat.reduceLT,Nat.reduceLeDiff,Nat.reduceAdd,Nat.reduceSub,Nat.reduceMul,Int.reduceAdd,Int.reduceSub,Int.reduceMul,Int.reduceNeg,Int.reduceLE,Int.reduceLT,Int.reduceEq,Int.reduceToNat])
  have key : ∀ m i : Nat, i + m = a.length → L (L10_1 (.sl o 4 (a.map edV)) (.sl o' 4 (a.map edV)) (.int .i64 i) [] 0) := by
    intro m
    induction m with
    | zero =>
      intro i hi
      apply hL
      simp only [L10_1, l10_1, ex,reduceIte,reduceCtorEq,Nat.reduceEqDiff,Nat.reduceLT,Nat.reduceLeDiff,Nat.reduceAdd,Nat.reduceSub,Nat.reduceMul,Int.reduceAdd,Int.reduceSub,Int.reduceMul,Int.reduceNeg,Int.reduceLE,Int.reduceLT,Int.reduceEq,Int.reduceToNat]
      have h1 : decide ((i : Int) < (a.length : Int)) = false := by simp; omega
      (try simp only [h1, ex,reduceIte,reduceCtorEq,Nat.reduceEqDiff,Nat.reduceLT,Nat.reduceLeDiff,Nat.reduceAdd,Nat.reduceSub,Nat.reduceMul,Int.reduceAdd,Int.reduceSub,Int.reduceMul,Int.reduceNeg,Int.reduceLE,Int.reduceLT,Int.reduceEq,Int.reduceToNat]) <;> repeat ((with_reducible refine Req.intro ?_ ?_); (first | omega | (simp <;> omega)); try simp only [h1, ex,reduceIte,reduceCtorEq,Nat.reduceEqDiff,Nat.reduceLT,Nat.reduceLeDiff,Nat.reduceAdd,Nat.reduceSub,Nat.reduceMul,Int.reduceAdd,Int.reduceSub,Int.reduceMul,Int.reduceNeg,Int.reduceLE,Int.reduceLT,Int.reduceEq,Int.reduceToNat])
    | succ m ih =>
      intro i hi
      apply hL
      simp only [L10_1, l10_1, ex,reduceIte,reduceCtorEq,Nat.reduceEqDiff,Nat.reduceLT,Nat.reduceLeDiff,Nat.reduceAdd,Nat.reduceSub,Nat.reduceMul,Int.reduceAdd,Int.reduceSub,Int.reduceMul,Int.reduceNeg,Int.reduceLE,Int.reduceLT,Int.reduceEq,Int.reduceToNat]
      have h1 : decide ((i : Int) < (a.length : Int)) = true := by simp; omega
      have g1 : a[i]? = some (a[i]'(by omega)) := List.getElem?_eq_getElem _
      generalize hx : a[i]'(by omega) = x at g1
      (try simp only [h1, g1, edV, ex,reduceIte,reduceCtorEq,Nat.reduceEqDiff,Nat.reduceLT,Nat.reduceLeDiff,Nat.reduceAdd,Nat.reduceSub,Nat.reduceMul,Int.reduceAdd,Int.reduceSub,Int.reduceMul,Int.reduceNeg,Int.reduceLE,Int.reduceLT,Int.reduceEq,Int.reduceToNat]) <;> repeat ((with_reducible refine Req.intro ?_ ?_); (first | omega | (simp <;> omega)); try simp only [h1, g1, edV, ex,reduceIte,reduceCtorEq,Nat.reduceEqDiff,Nat.reduceLT,Nat.reduceLeDiff,Nat.reduceAdd,Nat.reduceSub,Nat.reduceMul,Int.reduceAdd,Int.reduceSub,Int.reduceMul,Int.reduceNeg,Int.reduceLE,Int.reduceLT,Int.reduceEq,Int.reduceToNat])
      exact ih (i + 1) (by omega)
  exact key a.length 0 (Nat.zero_add _)

def movR (x y : Nat) (r : Rn) : Rn := ⟨r.A + x, r.B + y, r.N⟩
theorem moved_spec (o : Bool) (l : List Rn) (x y : Nat) (hl : l.length ≤ 1000000) (hb : ∀ r ∈ l, r.A ≤ 1000000 ∧ r.B ≤ 1000000) (hx : x ≤ 1000000) (hy : y ≤ 1000000) :
    Run tab 39 0 [.sl o 3 (l.map rnV), .int .i64 x, .int .i64 y] [] 0 (fun r _ _ => r = .sl true 3 ((l.map (movR x y)).map rnV)) := by
  refine enter (F := f39) rfl rfl ?_
  simp only [f39, ex,reduceIte,reduceCtorEq,Nat.reduceEqDiff,Nat.reduceLT,Nat.reduceLeDiff,Nat.reduceAdd,Nat.reduceSub,Nat.reduceMul,Int.reduceAdd,Int.reduceSub,Int.reduceMul,Int.reduceNeg,Int.reduceLE,Int.reduceLT,Int.reduceEq,Int.reduceToNat]
  (try simp only [ex,reduceIte,reduceCtorEq,Nat.reduceEqDiff,Nat.reduceLT,Nat.reduceLeDiff,Nat.reduceAdd,Nat.reduceSub,Nat.reduceMul,Int.reduceAdd,Int.reduceSub,Int.reduceMul,Int.reduceNeg,Int.reduceLE,Int.reduceLT,Int.reduceEq,Int.reduceToNat]) <;> repeat ((with_reducible refine Req.intro ?_ ?_); (first | omega | (simp <;> omega)); try simp only [ex,reduceIte,reduceCtorEq,Nat.reduceEqDiff,Nat.reduceLT,Nat.reduceLeDiff,Nat.reduceAdd,Nat.reduceSub,Nat.reduceMul,Int.reduceAdd,Int.reduceSub,Int.reduceMul,Int.reduceNeg,Int.reduceLE,Int.reduceLT,Int.reduceEq,Int.reduceToNat])
  refine loopI fun L hL => ?_
  (try simp only [ex,reduceIte,reduceCtorEq,Nat.reduceEqDiff,Nat.reduceLT,Nat.reduceLeDiff,Nat.reduceAdd,Nat.reduceSub,Nat.reduceMul,Int.reduceAdd,Int.reduceSub,Int.reduceMul,Int.reduceNeg,Int.reduceLE,Int.reduceLT,Int.reduceEq,Int.reduceToNat]) <;> repeat ((with_reducible refine Req.intro ?_ ?_); (first | omega | (simp <;> omega)); try simp only [ex,reduceIte,reduceCtorEq,Nat.reduceEqDiff,Nat.reduceLT,Nat.reduceLeDiff,Nat.reduceAdd,Nat.reduceSub,Nat.reduceMul,Int.reduceAdd,Int.reduceSub,Int.reduceMul,Int.reduceNeg,Int.reduceLE,Int.reduceLT,Int.reduceEq,Int.reduceToNat])
  have key : ∀ m p : Nat, p + m = l.length → L (L39_1 (.sl o 3 (l.map rnV)) (.int .i64 x) (.int .i64 y) (.sl true 3 (((l.take p).map (movR x y)).map rnV)) (.int .i64 p) [] 0) := by
    intro m
    induction m with
    | zero =>
      intro p hp
      apply hL
      simp only [L39_1, l39_1, ex,reduceIte,reduceCtorEq,Nat.reduceEqDiff,Nat.reduceLT,Nat.reduceLeDiff,Nat.reduceAdd,Nat.reduceSub,Nat.reduceMul,Int.reduceAdd,Int.reduceSub,Int.reduceMul,Int.reduceNeg,Int.reduceLE,Int.reduceLT,Int.reduceEq,Int.reduceToNat]
      have h1 : decide ((p : Int) < (l.length : Int)) = false := by simp; omega
      (try simp only [h1, ex,reduceIte,reduceCtorEq,Nat.reduceEqDiff,Nat.reduceLT,Nat.reduceLeDiff,Nat.reduceAdd,Nat.reduceSub,Nat.reduceMul,Int.reduceAdd,Int.reduceSub,Int.reduceMul,Int.reduceNeg,Int.reduceLE,Int.reduceLT,Int.reduceEq,Int.reduceToNat]) <;> repeat ((with_reducible refine Req.intro ?_ ?_); (first | omega | (simp <;> omega)); try simp only [h1, ex,reduceIte,reduceCtorEq,Nat.reduceEqDiff,Nat.reduceLT,Nat.reduceLeDiff,Nat.reduceAdd,Nat.reduceSub,Nat.reduceMul,Int.reduceAdd,Int.reduceSub,Int.reduceMul,Int.reduceNeg,Int.reduceLE,Int.reduceLT,Int.reduceEq,Int.reduceToNat])
      rw [List.take_of_length_le (by omega)]
    | succ m ih =>
      intro p hp
      apply hL
      simp only [L39_1, l39_1, ex,reduceIte,reduceCtorEq,Nat.reduceEqDiff,Nat.reduceLT,Nat.reduceLeDiff,Nat.reduceAdd,Nat.reduceSub,Nat.reduceMul,Int.reduceAdd,Int.reduceSub,Int.reduceMul,Int.reduceNeg,Int.reduceLE,Int.reduceLT,Int.reduceEq,Int.reduceToNat]
      have h1 : decide ((p : Int) < (l.length : Int)) = true := by simp; omega
      have g1 : l[p]? = some (l[p]'(by omega)) := List.getElem?_eq_getElem _
      have hb1 := hb (l[p]'(by omega)) (List.getElem_mem _)
      generalize hx : l[p]'(by omega) = r at g1 hb1
      have b1 := hb1.1
      have b2 := hb1.2
      have h9 := ih (p + 1) (by omega)
      rw [List.take_add_one, g1, List.map_append, List.map_append] at h9
      have hlen : ((l.take p).map (movR x y)).length ≤ 1000000 := by simp; omega
      (try simp only [h1, g1, rnV, ex,reduceIte,reduceCtorEq,Nat.reduceEqDiff,Nat.reduceLT,Nat.reduceLeDiff,Nat.reduceAdd,Nat.reduceSub,Nat.reduceMul,Int.reduceAdd,Int.reduceSub,Int.reduceMul,Int.reduceNeg,Int.reduceLE,Int.reduceLT,Int.reduceEq,Int.reduceToNat]) <;> repeat ((with_reducible refine Req.intro ?_ ?_); (first | omega | (simp <;> omega)); try simp only [h1, g1, rnV, ex,reduceIte,reduceCtorEq,Nat.reduceEqDiff,Nat.reduceLT,Nat.reduceLeDiff,Nat.reduceAdd,Nat.reduceSub,Nat.reduceMul,Int.reduceAdd,Int.reduceSub,Int.reduceMul,Int.reduceNeg,Int.reduceLE,Int.reduceLT,Int.reduceEq,Int.reduceToNat])
      exact h9
  exact key l.length 0 (Nat.zero_add _)
end Go.Proofs.Ytmmcepbcjlopdaa.E.Hs

/- diff.FromRuns and its closure: walked at runs that fit. Conditions: none. -/
namespace Go.Proofs.Ytmmcepbcjlopdaa.E.Hs
set_option linter.unusedVariables false
set_option linter.unusedSimpArgs false
set_option maxHeartbeats 20000000
set_option maxRecDepth 100000

def frH (i j : Nat) (out : List Ed) : Heap := [(0, .rows 1 [.agg [.sl true 4 (out.map edV)]]), (1, .rows 1 [.agg [.int .i64 i]]), (2, .rows 1 [.agg [.int .i64 j]])]
theorem lay_spec (i j a b c : Nat) (out : List Ed) (hi : i ≤ a) (hj : j ≤ b) (ha : a ≤ 1000000) (hb : b ≤ 1000000) (ho : out.length ≤ 2000000) :
    Run tab 38 0 [.int .i64 a, .int .i64 b, .ptr 1 1 0 0, .ptr 2 1 0 0, .ptr 0 1 0 0] (frH i j out) c (fun r h n => r = .tup [] ∧ h = frH i j (out ++ gap i j a b) ∧ n = c) := by
  refine enter (F := f38) rfl rfl ?_
  simp only [f38, frH, ex,reduceIte,reduceCtorEq,Nat.reduceEqDiff,Nat.reduceLT,Nat.reduceLeDiff,Nat.reduceAdd,Nat.reduceSub,Nat.reduceMul,Int.reduceAdd,Int.reduceSub,Int.reduceMul,Int.reduceNeg,Int.reduceLE,Int.reduceLT,Int.reduceEq,Int.reduceToNat]
  have h4 : (a : Int) - (i : Int) = ((a - i : Nat) : Int) := by omega
  have h5 : (b : Int) - (j : Int) = ((b - j : Nat) : Int) := by omega
  rcases Nat.lt_or_ge i a with c1 | c1
  · have h2 : decide ((a : Int) > (i : Int)) = true := by simp; omega
    rw [gap, if_pos (.inl c1), List.map_append]
    (try simp only [h2, h4, h5, ex,reduceIte,reduceCtorEq,Nat.reduceEqDiff,Nat.reduceLT,Nat.reduceLeDiff,Nat.reduceAdd,Nat.reduceSub,Nat.reduceMul,Int.reduceAdd,Int.reduceSub,Int.reduceMul,Int.reduceNeg,Int.reduceLE,Int.reduceLT,Int.reduceEq,Int.reduceToNat]) <;> repeat ((with_reducible refine Req.intro ?_ ?_); (first | omega | (simp <;> omega)); try simp only [h2, h4, h5, ex,reduceIte,reduceCtorEq,Nat.reduceEqDiff,Nat.reduceLT,Nat.reduceLeDiff,Nat.reduceAdd,Nat.reduceSub,Nat.reduceMul,Int.reduceAdd,Int.reduceSub,Int.reduceMul,Int.reduceNeg,Int.reduceLE,Int.reduceLT,Int.reduceEq,Int.reduceToNat])
    exact ⟨rfl, rfl⟩
  · have h2 : decide ((a : Int) > (i : Int)) = false := by simp; omega
    rcases Nat.lt_or_ge j b with c2 | c2
    · have h3 : decide ((b : Int) > (j : Int)) = true := by simp; omega
      rw [gap, if_pos (.inr c2), List.map_append]
      (try simp only [h2, h3, h4, h5, ex,reduceIte,reduceCtorEq,Nat.reduceEqDiff,Nat.reduceLT,Nat.reduceLeDiff,Nat.reduceAdd,Nat.reduceSub,Nat.reduceMul,Int.reduceAdd,Int.reduceSub,Int.reduceMul,Int.reduceNeg,Int.reduceLE,Int.reduceLT,Int.reduceEq,Int.reduceToNat]) <;> repeat ((with_reducible refine Req.intro ?_ ?_); (first | omega | (simp <;> omega)); try simp only [h2, h3, h4, h5, ex,reduceIte,reduceCtorEq,Nat.reduceEqDiff,Nat.reduceLT,Nat.reduceLeDiff,Nat.reduceAdd,Nat.reduceSub,Nat.reduceMul,Int.reduceAdd,Int.reduceSub,Int.reduceMul,Int.reduceNeg,Int.reduceLE,Int.reduceLT,Int.reduceEq,Int.reduceToNat])
      exact ⟨rfl, rfl⟩
    · have h3 : decide ((b : Int) > (j : Int)) = false := by simp; omega
      rw [gap, if_neg (by omega), List.append_nil]
      (try simp only [h2, h3, ex,reduceIte,reduceCtorEq,Nat.reduceEqDiff,Nat.reduceLT,Nat.reduceLeDiff,Nat.reduceAdd,Nat.reduceSub,Nat.reduceMul,Int.reduceAdd,Int.reduceSub,Int.reduceMul,Int.reduceNeg,Int.reduceLE,Int.reduceLT,Int.reduceEq,Int.reduceToNat]) <;> repeat ((with_reducible refine Req.intro ?_ ?_); (first | omega | (simp <;> omega)); try simp only [h2, h3, ex,reduceIte,reduceCtorEq,Nat.reduceEqDiff,Nat.reduceLT,Nat.reduceLeDiff,Nat.reduceAdd,Nat.reduceSub,Nat.reduceMul,Int.reduceAdd,Int.reduceSub,Int.reduceMul,Int.reduceNeg,Int.reduceLE,Int.reduceLT,Int.reduceEq,Int.reduceToNat])
      rfl

theorem fromRuns_spec (o : Bool) (l : List Rn) (n m : Nat) (hl : FitR n m l 0 0) (hlen : l.length ≤ 1000000) (hn : n ≤ 1000000) (hm : m ≤ 1000000) :
    Run tab 25 0 [.int .i64 n, .int .i64 m, .sl o 3 (l.map rnV)] [] 0 (fun r _ _ => r = .sl false 4 ((edsOf n m l 0 0).map edV)) := by
  refine enter (F := f25) rfl rfl ?_
  simp only [f25, ex,reduceIte,reduceCtorEq,Nat.reduceEqDiff,Nat.reduceLT,Nat.reduceLeDiff,Nat.reduceAdd,Nat.reduceSub,Nat.reduceMul,Int.reduceAdd,Int.reduceSub,Int.reduceMul,Int.reduceNeg,Int.reduceLE,Int.reduceLT,Int.reduceEq,Int.reduceToNat]
  have z1 : decide ((n : Int) < 0) = false := by simp
  have z2 : decide ((m : Int) < 0) = false := by simp
  (try simp only [z1, z2, ex,reduceIte,reduceCtorEq,Nat.reduceEqDiff,Nat.reduceLT,Nat.reduceLeDiff,Nat.reduceAdd,Nat.reduceSub,Nat.reduceMul,Int.reduceAdd,Int.reduceSub,Int.reduceMul,Int.reduceNeg,Int.reduceLE,Int.reduceLT,Int.reduceEq,Int.reduceToNat]) <;> repeat ((with_reducible refine Req.intro ?_ ?_); (first | omega | (simp <;> omega)); try simp only [z1, z2, ex,reduceIte,reduceCtorEq,Nat.reduceEqDiff,Nat.reduceLT,Nat.reduceLeDiff,Nat.reduceAdd,Nat.reduceSub,Nat.reduceMul,Int.reduceAdd,Int.reduceSub,Int.reduceMul,Int.reduceNeg,Int.reduceLE,Int.reduceLT,Int.reduceEq,Int.reduceToNat])
  refine loopI fun L hL => ?_
  (try simp only [ex,reduceIte,reduceCtorEq,Nat.reduceEqDiff,Nat.reduceLT,Nat.reduceLeDiff,Nat.reduceAdd,Nat.reduceSub,Nat.reduceMul,Int.reduceAdd,Int.reduceSub,Int.reduceMul,Int.reduceNeg,Int.reduceLE,Int.reduceLT,Int.reduceEq,Int.reduceToNat]) <;> repeat ((with_reducible refine Req.intro ?_ ?_); (first | omega | (simp <;> omega)); try simp only [ex,reduceIte,reduceCtorEq,Nat.reduceEqDiff,Nat.reduceLT,Nat.reduceLeDiff,Nat.reduceAdd,Nat.reduceSub,Nat.reduceMul,Int.reduceAdd,Int.reduceSub,Int.reduceMul,Int.reduceNeg,Int.reduceLE,Int.reduceLT,Int.reduceEq,Int.reduceToNat])
  have key : ∀ (q p c i j : Nat) (out : List Ed), p + q = l.length → FitR n m (l.drop p) i j → i ≤ n → j ≤ m → out.length ≤ p → out ++ edsOf n m (l.drop p) i j = edsOf n m l 0 0 →
      L (L25_1 (.int .i64 n) (.int .i64 m) (.ptr 0 1 0 0) (.ptr 1 1 0 0) (.ptr 2 1 0 0) (.fn 38 [.ptr 1 1 0 0, .ptr 2 1 0 0, .ptr 0 1 0 0]) (.sl o 3 (l.map rnV)) (.int .i64 l.length) (.int .i64 p) (frH i j out) c) := by
    intro q
    induction q with
    | zero =>
      intro p c i j out hp hf hi hj ho he
      apply hL
      simp only [L25_1, l25_1, ex,reduceIte,reduceCtorEq,Nat.reduceEqDiff,Nat.reduceLT,Nat.reduceLeDiff,Nat.reduceAdd,Nat.reduceSub,Nat.reduceMul,Int.reduceAdd,Int.reduceSub,Int.reduceMul,Int.reduceNeg,Int.reduceLE,Int.reduceLT,Int.reduceEq,Int.reduceToNat]
      have h1 : decide ((p : Int) < (l.length : Int)) = false := by simp; omega
      rw [List.drop_of_length_le (by omega), edsOf] at he
      (try simp only [h1, ex,reduceIte,reduceCtorEq,Nat.reduceEqDiff,Nat.reduceLT,Nat.reduceLeDiff,Nat.reduceAdd,Nat.reduceSub,Nat.reduceMul,Int.reduceAdd,Int.reduceSub,Int.reduceMul,Int.reduceNeg,Int.reduceLE,Int.reduceLT,Int.reduceEq,Int.reduceToNat]) <;> repeat ((with_reducible refine Req.intro ?_ ?_); (first | omega | (simp <;> omega)); try simp only [h1, ex,reduceIte,reduceCtorEq,Nat.reduceEqDiff,Nat.reduceLT,Nat.reduceLeDiff,Nat.reduceAdd,Nat.reduceSub,Nat.reduceMul,Int.reduceAdd,Int.reduceSub,Int.reduceMul,Int.reduceNeg,Int.reduceLE,Int.reduceLT,Int.reduceEq,Int.reduceToNat])
      refine CallH.eq (lay_spec i j n m c out hi hj hn hm (by omega)) ?_
      rw [he]
      (try simp only [frH, Nat.sub_self, ex,reduceIte,reduceCtorEq,Nat.reduceEqDiff,Nat.reduceLT,Nat.reduceLeDiff,Nat.reduceAdd,Nat.reduceSub,Nat.reduceMul,Int.reduceAdd,Int.reduceSub,Int.reduceMul,Int.reduceNeg,Int.reduceLE,Int.reduceLT,Int.reduceEq,Int.reduceToNat]) <;> repeat ((with_reducible refine Req.intro ?_ ?_); (first | omega | (simp <;> omega)); try simp only [frH, Nat.sub_self, ex,reduceIte,reduceCtorEq,Nat.reduceEqDiff,Nat.reduceLT,Nat.reduceLeDiff,Nat.reduceAdd,Nat.reduceSub,Nat.reduceMul,Int.reduceAdd,Int.reduceSub,Int.reduceMul,Int.reduceNeg,Int.reduceLE,Int.reduceLT,Int.reduceEq,Int.reduceToNat])
    | succ q ih =>
      intro p c i j out hp hf hi hj ho he
      apply hL
      simp only [L25_1, l25_1, ex,reduceIte,reduceCtorEq,Nat.reduceEqDiff,Nat.reduceLT,Nat.reduceLeDiff,Nat.reduceAdd,Nat.reduceSub,Nat.reduceMul,Int.reduceAdd,Int.reduceSub,Int.reduceMul,Int.reduceNeg,Int.reduceLE,Int.reduceLT,Int.reduceEq,Int.reduceToNat]
      have h1 : decide ((p : Int) < (l.length : Int)) = true := by simp; omega
      have g1 : l[p]? = some (l[p]'(by omega)) := List.getElem?_eq_getElem _
      rw [List.drop_eq_getElem_cons (by omega)] at he hf
      generalize hx : l[p]'(by omega) = r at g1 hf he
      rw [edsOf, ← List.append_assoc] at he
      have f1 := hf.1
      have f2 := hf.2.1
      have f3 := hf.2.2.1
      have f4 := hf.2.2.2.1
      have f5 := hf.2.2.2.2.1
      have f6 := hf.2.2.2.2.2
      have u1 : decide ((r.N : Int) < 1) = false := by simp; omega
      have u2 : decide ((r.A : Int) < (i : Int)) = false := by simp; omega
      have u3 : decide ((r.B : Int) < (j : Int)) = false := by simp; omega
      have u4 : decide ((r.A : Int) > (n : Int)) = false := by simp; omega
      have u5 : decide ((r.B : Int) > (m : Int)) = false := by simp; omega
      have u6 : decide ((r.N : Int) > (n : Int) - (r.A : Int)) = false := by simp; omega
      have u7 : decide ((r.N : Int) > (m : Int) - (r.B : Int)) = false := by simp; omega
      have hgl : (gap i j r.A r.B).length ≤ 1 := by unfold gap; split <;> simp
      have h9 := ih (p + 1) (c + 1) (r.A + r.N) (r.B + r.N) (out ++ gap i j r.A r.B) (by omega) f6 f4 f5 (by rw [List.length_append]; omega) he
      (try simp only [h1, g1, rnV, frH, u1, u2, u3, u4, u5, u6, u7, ex,reduceIte,reduceCtorEq,Nat.reduceEqDiff,Nat.reduceLT,Nat.reduceLeDiff,Nat.reduceAdd,Nat.reduceSub,Nat.reduceMul,Int.reduceAdd,Int.reduceSub,Int.reduceMul,Int.reduceNeg,Int.reduceLE,Int.reduceLT,Int.reduceEq,Int.reduceToNat]) <;> repeat ((with_reducible refine Req.intro ?_ ?_); (first | omega | (simp <;> omega)); try simp only [h1, g1, rnV, frH, u1, u2, u3, u4, u5, u6, u7, ex,reduceIte,reduceCtorEq,Nat.reduceEqDiff,Nat.reduceLT,Nat.reduceLeDiff,Nat.reduceAdd,Nat.reduceSub,Nat.reduceMul,Int.reduceAdd,Int.reduceSub,Int.reduceMul,Int.reduceNeg,Int.reduceLE,Int.reduceLT,Int.reduceEq,Int.reduceToNat])
      refine CallH.eq (lay_spec i j r.A r.B (c + 1) out f2 f3 (by omega) (by omega) (by omega)) ?_
      (try simp only [frH, Nat.sub_self, ex,reduceIte,reduceCtorEq,Nat.reduceEqDiff,Nat.reduceLT,Nat.reduceLeDiff,Nat.reduceAdd,Nat.reduceSub,Nat.reduceMul,Int.reduceAdd,Int.reduceSub,Int.reduceMul,Int.reduceNeg,Int.reduceLE,Int.reduceLT,Int.reduceEq,Int.reduceToNat]) <;> repeat ((with_reducible refine Req.intro ?_ ?_); (first | omega | (simp <;> omega)); try simp only [frH, Nat.sub_self, ex,reduceIte,reduceCtorEq,Nat.reduceEqDiff,Nat.reduceLT,Nat.reduceLeDiff,Nat.reduceAdd,Nat.reduceSub,Nat.reduceMul,Int.reduceAdd,Int.reduceSub,Int.reduceMul,Int.reduceNeg,Int.reduceLE,Int.reduceLT,Int.reduceEq,Int.reduceToNat])
      exact h9
  exact key l.length 0 3 0 0 [] (Nat.zero_add _) hl (Nat.zero_le _) (Nat.zero_le _) (by simp) (by simp)
end Go.Proofs.Ytmmcepbcjlopdaa.E.Hs

/- The runs that stay, by rare lines: plain lists. Conditions: none. -/
namespace Go.Proofs.Ytmmcepbcjlopdaa.E.Hs
set_option linter.unusedVariables false
set_option linter.unusedSimpArgs false
set_option maxHeartbeats 20000000

/-- How long two lists are the same at their end. -/
def suf (a b : List S) : Nat := lcp a.reverse b.reverse
theorem suf_le (a b : List S) : suf a b ≤ a.length ∧ suf a b ≤ b.length := by
  have := lcp_le a.reverse b.reverse
  simpa [suf] using this
theorem suf_lt {a b : List S} {m : Nat} (h : m < suf a b) : ∃ s, a[a.length - 1 - m]? = some s ∧ b[b.length - 1 - m]? = some s := by
  have hl := suf_le a b
  have h9 := lcp_lt a.reverse b.reverse m h
  rw [List.getElem?_reverse (by omega), List.getElem?_reverse (by omega)] at h9
  exact h9
theorem suf_end {a b : List S} {s t : S} (h1 : suf a b < a.length) (h2 : suf a b < b.length) (h3 : a[a.length - 1 - suf a b]? = some s) (h4 : b[b.length - 1 - suf a b]? = some t) : s ≠ t := by
  refine lcp_end a.reverse b.reverse s t ?_ ?_
  · show a.reverse[suf a b]? = some s
    rw [List.getElem?_reverse h1]; exact h3
  · show b.reverse[suf a b]? = some t
    rw [List.getElem?_reverse h2]; exact h4
def shR (x y : Nat) (l : List Rn) : List Rn := l.map (movR x y)
theorem shR_app (x y : Nat) (l l' : List Rn) : shR x y (l ++ l') = shR x y l ++ shR x y l' := List.map_append
theorem shR_shR (x y x' y' : Nat) (l : List Rn) : shR x y (shR x' y' l) = shR (x' + x) (y' + y) l := by
  unfold shR; rw [List.map_map]
  apply List.map_congr_left
  intro r _
  simp [movR, Nat.add_assoc]
theorem shR_zero (l : List Rn) : shR 0 0 l = l := by
  unfold shR
  rw [show movR 0 0 = id from by funext r; rfl]
  exact List.map_id l
theorem shR_nz (x y : Nat) (l : List Rn) : (shR x y l).filter nz = shR x y (l.filter nz) := by
  unfold shR
  rw [List.filter_map]
  rfl
theorem shR_len (x y : Nat) (l : List Rn) : (shR x y l).length = l.length := by simp [shR]
/-- What is between the common beginning and the common end. -/
def cut1 (a b : List S) : List S := a.drop (lcp a b)
def cutA (a b : List S) : List S := (a.drop (lcp a b)).take (a.length - lcp a b - suf (a.drop (lcp a b)) (b.drop (lcp a b)))
def cutB (a b : List S) : List S := (b.drop (lcp a b)).take (b.length - lcp a b - suf (a.drop (lcp a b)) (b.drop (lcp a b)))
/-- The runs, those without lines among them. -/
def stz : Nat → List S → List S → List Rn
  | 0, _, _ => []
  | k + 1, a, b =>
    ⟨0, 0, lcp a b⟩ :: shR (lcp a b) (lcp a b) ((if cutA a b = [] ∨ cutB a b = [] then [] else
      if (pRes (cutA a b) (cutB a b)).found = true then
        stz k ((cutA a b).take (pRes (cutA a b) (cutB a b)).best.A) ((cutB a b).take (pRes (cutA a b) (cutB a b)).best.B) ++
        ((pRes (cutA a b) (cutB a b)).best :: shR ((pRes (cutA a b) (cutB a b)).best.A + (pRes (cutA a b) (cutB a b)).best.N) ((pRes (cutA a b) (cutB a b)).best.B + (pRes (cutA a b) (cutB a b)).best.N)
          (stz k ((cutA a b).drop ((pRes (cutA a b) (cutB a b)).best.A + (pRes (cutA a b) (cutB a b)).best.N)) ((cutB a b).drop ((pRes (cutA a b) (cutB a b)).best.B + (pRes (cutA a b) (cutB a b)).best.N))))
      else leastRn (cutA a b) (cutB a b)) ++ [⟨(cutA a b).length, (cutB a b).length, suf (a.drop (lcp a b)) (b.drop (lcp a b))⟩])
def midz (k : Nat) (a b : List S) : List Rn := if (pRes a b).found = true then
    stz k (a.take (pRes a b).best.A) (b.take (pRes a b).best.B) ++ ((pRes a b).best :: shR ((pRes a b).best.A + (pRes a b).best.N) ((pRes a b).best.B + (pRes a b).best.N) (stz k (a.drop ((pRes a b).best.A + (pRes a b).best.N)) (b.drop ((pRes a b).best.B + (pRes a b).best.N))))
  else leastRn a b
theorem stz_succ (k : Nat) (a b : List S) : stz (k + 1) a b = ⟨0, 0, lcp a b⟩ :: shR (lcp a b) (lcp a b) ((if cutA a b = [] ∨ cutB a b = [] then [] else midz k (cutA a b) (cutB a b)) ++ [⟨(cutA a b).length, (cutB a b).length, suf (a.drop (lcp a b)) (b.drop (lcp a b))⟩]) := rfl
theorem pRes_fits (a b : List S) (h : (pRes a b).found = true) : Cand a b (pRes a b).best ∧ 0 < (pRes a b).best.N ∧ (pRes a b).best.A + (pRes a b).best.N ≤ a.length ∧ (pRes a b).best.B + (pRes a b).best.N ≤ b.length := by
  have h9 := (panchor_is a b).1
  rw [if_pos h] at h9
  exact ⟨h9.1, cand_fits h9.1⟩
theorem cut_len (a b : List S) : (cutA a b).length = a.length - lcp a b - suf (a.drop (lcp a b)) (b.drop (lcp a b)) ∧ (cutB a b).length = b.length - lcp a b - suf (a.drop (lcp a b)) (b.drop (lcp a b)) ∧ lcp a b + suf (a.drop (lcp a b)) (b.drop (lcp a b)) ≤ a.length ∧ lcp a b + suf (a.drop (lcp a b)) (b.drop (lcp a b)) ≤ b.length := by
  have h1 := suf_le (a.drop (lcp a b)) (b.drop (lcp a b))
  have h2 := lcp_le a b
  simp only [List.length_drop] at h1
  simp only [cutA, cutB, List.length_take, List.length_drop]
  omega
theorem stz_len : ∀ (k : Nat) (a b : List S), a.length ≤ 10000 → b.length ≤ 10000 → (stz k a b).length ≤ 4 * (a.length + b.length) + 2
  | 0, a, b, _, _ => by simp [stz]
  | k + 1, a, b, ha, hb => by
    have hc := cut_len a b
    rw [stz_succ]
    simp only [List.length_cons, shR_len, List.length_append, List.length_nil]
    split
    · simp
    · rename_i hne
      have hA : cutA a b ≠ [] := fun e => hne (.inl e)
      have hB : cutB a b ≠ [] := fun e => hne (.inr e)
      have lA := List.length_pos_iff.2 hA
      have lB := List.length_pos_iff.2 hB
      unfold midz
      split
      · rename_i hf
        have h9 := pRes_fits _ _ hf
        generalize pRes (cutA a b) (cutB a b) = P at *
        have s1 := stz_len k ((cutA a b).take P.best.A) ((cutB a b).take P.best.B) (by simp; omega) (by simp; omega)
        have s2 := stz_len k ((cutA a b).drop (P.best.A + P.best.N)) ((cutB a b).drop (P.best.B + P.best.N)) (by simp; omega) (by simp; omega)
        simp only [List.length_append, List.length_cons, shR_len, List.length_take, List.length_drop] at s1 s2 ⊢
        omega
      · have s1 := unch_len (cutA a b).length (leastEd (cutA a b) (cutB a b)) 0 0
        have s2 := (leastEd_small (cutA a b) (cutB a b) (by omega) (by omega)).2
        unfold leastRn
        omega

theorem Com.fitall {a b : List S} : ∀ {l : List Rn} {i j : Nat}, Com a b l i j → ∀ r ∈ l, r.A + r.N ≤ a.length ∧ r.B + r.N ≤ b.length
  | [], i, j, h, r, hr => by simp at hr
  | x :: l, i, j, h, r, hr => by
    rcases List.mem_cons.1 hr with rfl | hr
    · exact ⟨h.2.2.2.1.1, h.2.2.2.1.2.1⟩
    · exact Com.fitall h.2.2.2.2 r hr

/-! ### They are common runs -/
theorem Seg.take {a b : List S} {x y p q n : Nat} (h : Seg (a.take x) (b.take y) p q n) : Seg a b p q n := by
  obtain ⟨h1, h2, h3⟩ := h
  simp only [List.length_take] at h1 h2
  refine ⟨by omega, by omega, ?_⟩
  rw [List.drop_take, List.drop_take, List.take_take, List.take_take, Nat.min_eq_left (by omega), Nat.min_eq_left (by omega)] at h3
  exact h3
theorem Seg.drop {a b : List S} {x y p q n : Nat} (hx : x ≤ a.length) (hy : y ≤ b.length) (h : Seg (a.drop x) (b.drop y) p q n) : Seg a b (p + x) (q + y) n := by
  obtain ⟨h1, h2, h3⟩ := h
  simp only [List.length_drop] at h1 h2
  refine ⟨by omega, by omega, ?_⟩
  rw [List.drop_drop, List.drop_drop] at h3
  rw [Nat.add_comm p, Nat.add_comm q]; exact h3
theorem Com.lift {a b : List S} {x y : Nat} {l2 : List Rn} (h2 : Com a b l2 x y) : ∀ {l1 : List Rn} {i j : Nat}, Com (a.take x) (b.take y) l1 i j → Com a b (l1 ++ l2) i j
  | [], i, j, h => h2.mono (by have := h.1; simp at this; omega) (by have := h.2; simp at this; omega)
  | r :: l, i, j, h => ⟨h.1, h.2.1, h.2.2.1, h.2.2.2.1.take, Com.lift h2 h.2.2.2.2⟩
theorem Com.shift {a b : List S} {x y : Nat} (hx : x ≤ a.length) (hy : y ≤ b.length) : ∀ {l : List Rn} {i j : Nat}, Com (a.drop x) (b.drop y) l i j → Com a b (shR x y l) (i + x) (j + y)
  | [], i, j, h => ⟨by have := h.1; simp at this; omega, by have := h.2; simp at this; omega⟩
  | r :: l, i, j, h => by
    have h9 := Com.shift hx hy h.2.2.2.2
    refine ⟨h.1, by have := h.2.1; simp only [movR]; omega, by have := h.2.2.1; simp only [movR]; omega, h.2.2.2.1.drop hx hy, ?_⟩
    simp only [movR]
    rw [show r.A + x + r.N = r.A + r.N + x by omega, show r.B + y + r.N = r.B + r.N + y by omega]
    exact h9
theorem Com.pos {a b : List S} : ∀ {l : List Rn} {i j : Nat}, Com a b l i j → l.filter nz = l
  | [], i, j, h => rfl
  | r :: l, i, j, h => by
    have := h.1
    rw [List.filter_cons, if_pos (by simp [nz]; omega), Com.pos h.2.2.2.2]
theorem Seg.lcp (a b : List S) : Seg a b 0 0 (Hs.lcp a b) := by
  refine ⟨by have := lcp_le a b; omega, by have := lcp_le a b; omega, ?_⟩
  rw [List.drop_zero, List.drop_zero]
  apply List.ext_getElem?
  intro i
  rw [List.getElem?_take, List.getElem?_take]
  split
  · rename_i h
    obtain ⟨s, h1, h2⟩ := lcp_lt a b i h
    rw [h1, h2]
  · rfl
theorem Seg.suf (a b : List S) : Seg a b (a.length - Hs.suf a b) (b.length - Hs.suf a b) (Hs.suf a b) := by
  have hl := suf_le a b
  refine ⟨by omega, by omega, ?_⟩
  apply List.ext_getElem?
  intro i
  rw [List.getElem?_take, List.getElem?_take]
  split
  · rename_i h
    obtain ⟨s, h1, h2⟩ := suf_lt (a := a) (b := b) (m := Hs.suf a b - 1 - i) (by omega)
    rw [List.getElem?_drop, List.getElem?_drop]
    rw [show a.length - Hs.suf a b + i = a.length - 1 - (Hs.suf a b - 1 - i) by omega, h1, show b.length - Hs.suf a b + i = b.length - 1 - (Hs.suf a b - 1 - i) by omega, h2]
  · rfl
theorem Seg.cand {a b : List S} {r : Rn} (h : Cand a b r) : Seg a b r.A r.B r.N := by
  have h1 := cand_fits h
  refine ⟨h1.2.1, h1.2.2, ?_⟩
  have h9 := (Seg.lcp (a.drop r.A) (b.drop r.B)).2.2
  rw [← h.2.1] at h9
  simpa using h9
theorem filter_one (r : Rn) : [r].filter nz = if 0 < r.N then [r] else [] := by
  by_cases c : 0 < r.N
  · rw [if_pos c, List.filter_cons, if_pos (by simp [nz]; omega)]; rfl
  · rw [if_neg c, List.filter_cons, if_neg (by simp [nz]; omega)]; rfl
theorem stz_com : ∀ (k : Nat) (a b : List S), a.length ≤ 4096 → b.length ≤ 4096 → Com a b ((stz k a b).filter nz) 0 0
  | 0, a, b, _, _ => ⟨by simp, by simp⟩
  | k + 1, a, b, ha, hb => by
    have hc := cut_len a b
    have hl := lcp_le a b
    have sA : cutA a b = (a.drop (lcp a b)).take (cutA a b).length := by
      rw [hc.1]; rfl
    have sB : cutB a b = (b.drop (lcp a b)).take (cutB a b).length := by
      rw [hc.2.1]; rfl
    rw [stz_succ, List.filter_cons]
    have mid : Com (cutA a b) (cutB a b) ((if cutA a b = [] ∨ cutB a b = [] then [] else midz k (cutA a b) (cutB a b)).filter nz) 0 0 := by
      split
      · exact ⟨by simp, by simp⟩
      · unfold midz
        split
        · rename_i hf
          have h9 := pRes_fits _ _ hf
          have h8 := Seg.cand h9.1
          generalize pRes (cutA a b) (cutB a b) = P at *
          have s1 := stz_com k ((cutA a b).take P.best.A) ((cutB a b).take P.best.B) (by simp; omega) (by simp; omega)
          have s2 := stz_com k ((cutA a b).drop (P.best.A + P.best.N)) ((cutB a b).drop (P.best.B + P.best.N)) (by simp; omega) (by simp; omega)
          have s3 := s2.shift (by omega) (by omega)
          rw [Nat.zero_add, Nat.zero_add] at s3
          rw [List.filter_append, List.filter_cons, if_pos (by simp [nz]; omega), shR_nz]
          refine Com.lift ?_ s1
          exact ⟨by omega, Nat.le_refl _, Nat.le_refl _, h8, s3⟩
        · have h9 := (leastRn_com (cutA a b) (cutB a b) (by omega) (by omega)).1
          rw [h9.pos]
          exact h9
    have e1 := Seg.suf (a.drop (lcp a b)) (b.drop (lcp a b))
    simp only [List.length_drop] at e1
    rw [← hc.1, ← hc.2.1] at e1
    have fin : Com (a.drop (lcp a b)) (b.drop (lcp a b)) (((if cutA a b = [] ∨ cutB a b = [] then [] else midz k (cutA a b) (cutB a b)) ++ [(⟨(cutA a b).length, (cutB a b).length, suf (a.drop (lcp a b)) (b.drop (lcp a b))⟩ : Rn)]).filter nz) 0 0 := by
      rw [List.filter_append]
      refine Com.lift (x := (cutA a b).length) (y := (cutB a b).length) ?_ (by rw [← sA, ← sB]; exact mid)
      have := (Com.cons0 (l := []) (x := (cutA a b).length) (y := (cutB a b).length) (k := suf (a.drop (lcp a b)) (b.drop (lcp a b))) ⟨by simp only [List.length_drop]; omega, by simp only [List.length_drop]; omega⟩ e1).1
      rw [List.append_nil] at this
      rw [filter_one]
      exact this
    have f2 := fin.shift hl.1 hl.2
    rw [← shR_nz] at f2
    have f3 := (Com.cons0 (x := 0) (y := 0) (k := lcp a b) (by simpa using f2) (Seg.lcp a b)).1
    by_cases c : 0 < lcp a b
    · rw [if_pos (by simp [nz]; omega)]
      rw [if_pos c] at f3
      exact f3
    · rw [if_neg (by simp [nz]; omega)]
      rw [if_neg c] at f3
      exact f3
theorem midz_com (k : Nat) (a b : List S) (ha : a.length ≤ 4096) (hb : b.length ≤ 4096) : Com a b ((midz k a b).filter nz) 0 0 := by
  unfold midz
  split
  · rename_i hf
    have h9 := pRes_fits _ _ hf
    have h8 := Seg.cand h9.1
    generalize pRes a b = P at *
    have s1 := stz_com k (a.take P.best.A) (b.take P.best.B) (by simp; omega) (by simp; omega)
    have s2 := stz_com k (a.drop (P.best.A + P.best.N)) (b.drop (P.best.B + P.best.N)) (by simp; omega) (by simp; omega)
    have s3 := s2.shift (by omega) (by omega)
    rw [Nat.zero_add, Nat.zero_add] at s3
    rw [List.filter_append, List.filter_cons, if_pos (by simp [nz]; omega), shR_nz]
    refine Com.lift ?_ s1
    exact ⟨by omega, Nat.le_refl _, Nat.le_refl _, h8, s3⟩
  · have h9 := (leastRn_com a b (by omega) (by omega)).1
    rw [h9.pos]
    exact h9
end Go.Proofs.Ytmmcepbcjlopdaa.E.Hs

/- histo.stays: walked. Conditions: none. -/
namespace Go.Proofs.Ytmmcepbcjlopdaa.E.Hs
set_option linter.unusedVariables false
set_option linter.unusedSimpArgs false
set_option maxHeartbeats 20000000
set_option maxRecDepth 100000

/-- Runs that may be written: none yet, or a block. -/
def hsR (b : Nat) (l : List Rn) : V := if l = [] then .hs 0 0 0 0 else .hs b 3 0 l.length
def oH (b : Nat) (l : List Rn) : Heap := if l = [] then [] else [(b, .rows 3 (l.map rnV))]
theorem hsR_clr (b : Nat) (l : List Rn) : clr (hsR b l) = hsR b l := by unfold hsR; split <;> rfl
theorem app_R {b n : Nat} {out : List Rn} (r : Rn) {A B N : Int} {w : Bool} {k : V × Heap × Nat → Prop} {t : Tag k} (hA : A = r.A) (hB : B = r.B) (hN : N = r.N) (hl : out.length ≤ 1000000) :
    WK (hf (.appH 3 24) [hsR b out, .sl w 3 [.agg [.int .i64 A, .int .i64 B, .int .i64 N]]] (oH b out) n) k t = k (hsR n (out ++ [r]), oH n (out ++ [r]), 1) := by
  subst hA hB hN
  unfold hsR oH
  rw [if_neg (by simp : ¬ out ++ [r] = []), if_neg (by simp : ¬ out ++ [r] = [])]
  by_cases c : out = []
  · subst c
    rw [if_pos rfl, if_pos rfl, hf_appL, appB_nil]
    simp [Req, rnV, clr2, set, clr1]
  · rw [if_neg c, if_neg c, hf_appL, appB_put]
    simp only [get_cons, if_true, WK_some, apB_rows, del_cons, Req, List.length_nil]
    have e : (out.map rnV).take out.length = out.map rnV := List.take_of_length_le (by simp)
    simp only [Req, rnV, clr2, set, clr1, e, List.map_append, List.map_cons, List.map_nil, List.length_append, List.length_cons, List.length_nil, List.length_map, Nat.zero_add, true_and, Nat.le_refl, and_true, true_or]
    simp only [eq_iff_iff]
    exact ⟨fun h => h.2, fun h => ⟨by omega, h⟩⟩

theorem stays_spec : ∀ (k : Nat) (o o' : Bool) (a b : List S) (out : List Rn) (i j bk n : Nat), a.length ≤ 4096 → b.length ≤ 4096 → a.length + b.length < k → i + a.length ≤ 1000000 → j + b.length ≤ 1000000 → out.length + 4 * (a.length + b.length) + 2 ≤ 900000 →
    Run tab 23 0 [hsR bk out, .sl o 1 (a.map .str), .sl o' 1 (b.map .str), .int .i64 i, .int .i64 j] (oH bk out) n (fun r h' n' => ∃ b', r = hsR b' (out ++ shR i j (stz k a b)) ∧ h' = oH b' (out ++ shR i j (stz k a b))) := by
  intro k
  induction k with
  | zero => intro o o' a b out i j bk n ha hb hk; omega
  | succ k ih =>
    intro o o' a b out i j bk n ha hb hk hi hj ho
    have hp := lcp_le a b
    have hend := lcp_end a b
    have hlt := lcp_lt a b
    have hcl := cut_len a b
    have hslt := @suf_lt (a.drop (lcp a b)) (b.drop (lcp a b))
    have hsend := @suf_end (a.drop (lcp a b)) (b.drop (lcp a b))
    have hsl := suf_le (a.drop (lcp a b)) (b.drop (lcp a b))
    have hA0 : cutA a b = (a.drop (lcp a b)).take (a.length - lcp a b - suf (a.drop (lcp a b)) (b.drop (lcp a b))) := rfl
    have hB0 : cutB a b = (b.drop (lcp a b)).take (b.length - lcp a b - suf (a.drop (lcp a b)) (b.drop (lcp a b))) := rfl
    have hst := stz_succ k a b
    generalize hZ : stz (k + 1) a b = Z at *
    generalize cutA a b = a2 at *
    generalize cutB a b = b2 at *
    generalize lcp a b = p at *
    refine enter (F := f23) rfl rfl ?_
    simp only [f23, ex,reduceIte,reduceCtorEq,Nat.reduceEqDiff,Nat.reduceLT,Nat.reduceLeDiff,Nat.reduceAdd,Nat.reduceSub,Nat.reduceMul,Int.reduceAdd,Int.reduceSub,Int.reduceMul,Int.reduceNeg,Int.reduceLE,Int.reduceLT,Int.reduceEq,Int.reduceToNat]
    (try simp only [hsR_clr, ex,reduceIte,reduceCtorEq,Nat.reduceEqDiff,Nat.reduceLT,Nat.reduceLeDiff,Nat.reduceAdd,Nat.reduceSub,Nat.reduceMul,Int.reduceAdd,Int.reduceSub,Int.reduceMul,Int.reduceNeg,Int.reduceLE,Int.reduceLT,Int.reduceEq,Int.reduceToNat]) <;> repeat ((with_reducible refine Req.intro ?_ ?_); (first | omega | (simp <;> omega)); try simp only [hsR_clr, ex,reduceIte,reduceCtorEq,Nat.reduceEqDiff,Nat.reduceLT,Nat.reduceLeDiff,Nat.reduceAdd,Nat.reduceSub,Nat.reduceMul,Int.reduceAdd,Int.reduceSub,Int.reduceMul,Int.reduceNeg,Int.reduceLE,Int.reduceLT,Int.reduceEq,Int.reduceToNat])
    refine loopI fun L1 hL1 => ?_
    (try simp only [hsR_clr, ex,reduceIte,reduceCtorEq,Nat.reduceEqDiff,Nat.reduceLT,Nat.reduceLeDiff,Nat.reduceAdd,Nat.reduceSub,Nat.reduceMul,Int.reduceAdd,Int.reduceSub,Int.reduceMul,Int.reduceNeg,Int.reduceLE,Int.reduceLT,Int.reduceEq,Int.reduceToNat]) <;> repeat ((with_reducible refine Req.intro ?_ ?_); (first | omega | (simp <;> omega)); try simp only [hsR_clr, ex,reduceIte,reduceCtorEq,Nat.reduceEqDiff,Nat.reduceLT,Nat.reduceLeDiff,Nat.reduceAdd,Nat.reduceSub,Nat.reduceMul,Int.reduceAdd,Int.reduceSub,Int.reduceMul,Int.reduceNeg,Int.reduceLE,Int.reduceLT,Int.reduceEq,Int.reduceToNat])
    have key1 : ∀ m q : Nat, q + m = p → L1 (L23_1 (hsR bk out) (.sl o 1 (a.map .str)) (.sl o' 1 (b.map .str)) (.int .i64 i) (.int .i64 j) (.int .i64 q) (oH bk out) n) := by
      intro m
      induction m with
      | succ m ih1 =>
        intro q hq
        apply hL1
        simp only [L23_1, l23_1, ex,reduceIte,reduceCtorEq,Nat.reduceEqDiff,Nat.reduceLT,Nat.reduceLeDiff,Nat.reduceAdd,Nat.reduceSub,Nat.reduceMul,Int.reduceAdd,Int.reduceSub,Int.reduceMul,Int.reduceNeg,Int.reduceLE,Int.reduceLT,Int.reduceEq,Int.reduceToNat]
        have h1 : decide ((q : Int) < (a.length : Int)) = true := by simp; omega
        have h2 : decide ((q : Int) < (b.length : Int)) = true := by simp; omega
        have hs := hlt q (by omega)
        have g1 := hs.choose_spec.1
        have g2 := hs.choose_spec.2
        generalize hs.choose = x at g1 g2
        have h3 : decide (x = x) = true := by simp
        (try simp only [h1, h2, g1, g2, h3, hsR_clr, ex,reduceIte,reduceCtorEq,Nat.reduceEqDiff,Nat.reduceLT,Nat.reduceLeDiff,Nat.reduceAdd,Nat.reduceSub,Nat.reduceMul,Int.reduceAdd,Int.reduceSub,Int.reduceMul,Int.reduceNeg,Int.reduceLE,Int.reduceLT,Int.reduceEq,Int.reduceToNat]) <;> repeat ((with_reducible refine Req.intro ?_ ?_); (first | omega | (simp <;> omega)); try simp only [h1, h2, g1, g2, h3, hsR_clr, ex,reduceIte,reduceCtorEq,Nat.reduceEqDiff,Nat.reduceLT,Nat.reduceLeDiff,Nat.reduceAdd,Nat.reduceSub,Nat.reduceMul,Int.reduceAdd,Int.reduceSub,Int.reduceMul,Int.reduceNeg,Int.reduceLE,Int.reduceLT,Int.reduceEq,Int.reduceToNat])
        exact ih1 (q + 1) (by omega)
      | zero =>
        intro q hq
        have hq' : q = p := by omega
        subst hq'
        apply hL1
        simp only [L23_1, l23_1, ex,reduceIte,reduceCtorEq,Nat.reduceEqDiff,Nat.reduceLT,Nat.reduceLeDiff,Nat.reduceAdd,Nat.reduceSub,Nat.reduceMul,Int.reduceAdd,Int.reduceSub,Int.reduceMul,Int.reduceNeg,Int.reduceLE,Int.reduceLT,Int.reduceEq,Int.reduceToNat]
        apply shareL
        · intro share
          rcases Nat.lt_or_ge q a.length with c1 | c1
          · have h1 : decide ((q : Int) < (a.length : Int)) = true := by simp; omega
            rcases Nat.lt_or_ge q b.length with c2 | c2
            · have h2 : decide ((q : Int) < (b.length : Int)) = true := by simp; omega
              have g1 : a[q]? = some (a[q]'(by omega)) := List.getElem?_eq_getElem _
              have g2 : b[q]? = some (b[q]'(by omega)) := List.getElem?_eq_getElem _
              have h3 : decide (a[q]'(by omega) = b[q]'(by omega)) = false := by simpa using hend _ _ g1 g2
              (try simp only [h1, h2, g1, g2, h3, hsR_clr, ex,reduceIte,reduceCtorEq,Nat.reduceEqDiff,Nat.reduceLT,Nat.reduceLeDiff,Nat.reduceAdd,Nat.reduceSub,Nat.reduceMul,Int.reduceAdd,Int.reduceSub,Int.reduceMul,Int.reduceNeg,Int.reduceLE,Int.reduceLT,Int.reduceEq,Int.reduceToNat]) <;> repeat ((with_reducible refine Req.intro ?_ ?_); (first | omega | (simp <;> omega)); try simp only [h1, h2, g1, g2, h3, hsR_clr, ex,reduceIte,reduceCtorEq,Nat.reduceEqDiff,Nat.reduceLT,Nat.reduceLeDiff,Nat.reduceAdd,Nat.reduceSub,Nat.reduceMul,Int.reduceAdd,Int.reduceSub,Int.reduceMul,Int.reduceNeg,Int.reduceLE,Int.reduceLT,Int.reduceEq,Int.reduceToNat])
              exact share.out
            · have h2 : decide ((q : Int) < (b.length : Int)) = false := by simp; omega
              (try simp only [h1, h2, hsR_clr, ex,reduceIte,reduceCtorEq,Nat.reduceEqDiff,Nat.reduceLT,Nat.reduceLeDiff,Nat.reduceAdd,Nat.reduceSub,Nat.reduceMul,Int.reduceAdd,Int.reduceSub,Int.reduceMul,Int.reduceNeg,Int.reduceLE,Int.reduceLT,Int.reduceEq,Int.reduceToNat]) <;> repeat ((with_reducible refine Req.intro ?_ ?_); (first | omega | (simp <;> omega)); try simp only [h1, h2, hsR_clr, ex,reduceIte,reduceCtorEq,Nat.reduceEqDiff,Nat.reduceLT,Nat.reduceLeDiff,Nat.reduceAdd,Nat.reduceSub,Nat.reduceMul,Int.reduceAdd,Int.reduceSub,Int.reduceMul,Int.reduceNeg,Int.reduceLE,Int.reduceLT,Int.reduceEq,Int.reduceToNat])
              exact share.out
          · have h1 : decide ((q : Int) < (a.length : Int)) = false := by simp; omega
            (try simp only [h1, hsR_clr, ex,reduceIte,reduceCtorEq,Nat.reduceEqDiff,Nat.reduceLT,Nat.reduceLeDiff,Nat.reduceAdd,Nat.reduceSub,Nat.reduceMul,Int.reduceAdd,Int.reduceSub,Int.reduceMul,Int.reduceNeg,Int.reduceLE,Int.reduceLT,Int.reduceEq,Int.reduceToNat]) <;> repeat ((with_reducible refine Req.intro ?_ ?_); (first | omega | (simp <;> omega)); try simp only [h1, hsR_clr, ex,reduceIte,reduceCtorEq,Nat.reduceEqDiff,Nat.reduceLT,Nat.reduceLeDiff,Nat.reduceAdd,Nat.reduceSub,Nat.reduceMul,Int.reduceAdd,Int.reduceSub,Int.reduceMul,Int.reduceNeg,Int.reduceLE,Int.reduceLT,Int.reduceEq,Int.reduceToNat])
            exact share.out
        · have a1 := fun w k t => app_R (b := bk) (n := n) (out := out) (⟨i, j, q⟩ : Rn) (A := (i : Int)) (B := (j : Int)) (N := (q : Int)) (w := w) (k := k) (t := t) rfl rfl rfl (by omega)
          (try simp only [hsR_clr, a1, ex,reduceIte,reduceCtorEq,Nat.reduceEqDiff,Nat.reduceLT,Nat.reduceLeDiff,Nat.reduceAdd,Nat.reduceSub,Nat.reduceMul,Int.reduceAdd,Int.reduceSub,Int.reduceMul,Int.reduceNeg,Int.reduceLE,Int.reduceLT,Int.reduceEq,Int.reduceToNat]) <;> repeat ((with_reducible refine Req.intro ?_ ?_); (first | omega | (simp <;> omega)); try simp only [hsR_clr, a1, ex,reduceIte,reduceCtorEq,Nat.reduceEqDiff,Nat.reduceLT,Nat.reduceLeDiff,Nat.reduceAdd,Nat.reduceSub,Nat.reduceMul,Int.reduceAdd,Int.reduceSub,Int.reduceMul,Int.reduceNeg,Int.reduceLE,Int.reduceLT,Int.reduceEq,Int.reduceToNat])
          have ho1 : (out ++ [(⟨i, j, q⟩ : Rn)]).length = out.length + 1 := by simp
          have hZ2 : out ++ shR i j Z = (out ++ [⟨i, j, q⟩]) ++ shR (q + i) (q + j) (if a2 = [] ∨ b2 = [] then [] else midz k a2 b2) ++ [⟨a2.length + (q + i), b2.length + (q + j), suf (a.drop q) (b.drop q)⟩] := by
            rw [hst]
            simp only [shR, List.map_cons, List.map_append, List.map_map, List.map_nil, movR, Nat.zero_add, List.append_assoc, List.cons_append, List.nil_append]
            congr 2
            congr 1
            · apply List.map_congr_left
              intro r _
              simp [movR, Nat.add_assoc]
            · simp [Nat.add_assoc]
          rw [Nat.add_comm q i, Nat.add_comm q j] at hZ2
          generalize out ++ [(⟨i, j, q⟩ : Rn)] = out1 at *
          have la1 : (a.drop q).length = a.length - q := by simp
          have lb1 : (b.drop q).length = b.length - q := by simp
          generalize a.drop q = a1' at *
          generalize b.drop q = b1' at *
          generalize suf a1' b1' = m at *
          refine loopI fun L2 hL2 => ?_
          (try simp only [hsR_clr, ex,reduceIte,reduceCtorEq,Nat.reduceEqDiff,Nat.reduceLT,Nat.reduceLeDiff,Nat.reduceAdd,Nat.reduceSub,Nat.reduceMul,Int.reduceAdd,Int.reduceSub,Int.reduceMul,Int.reduceNeg,Int.reduceLE,Int.reduceLT,Int.reduceEq,Int.reduceToNat]) <;> repeat ((with_reducible refine Req.intro ?_ ?_); (first | omega | (simp <;> omega)); try simp only [hsR_clr, ex,reduceIte,reduceCtorEq,Nat.reduceEqDiff,Nat.reduceLT,Nat.reduceLeDiff,Nat.reduceAdd,Nat.reduceSub,Nat.reduceMul,Int.reduceAdd,Int.reduceSub,Int.reduceMul,Int.reduceNeg,Int.reduceLE,Int.reduceLT,Int.reduceEq,Int.reduceToNat])
          have key2 : ∀ mm p : Nat, p + mm = m → L2 (L23_2 (hsR n out1) (.sl false 1 (a1'.map .str)) (.sl false 1 (b1'.map .str)) (.int .i64 ((i : Int) + (q : Int))) (.int .i64 ((j : Int) + (q : Int))) (.int .i64 p) (oH n out1) (n + 1)) := by
            intro mm
            induction mm with
            | succ mm ih2 =>
              intro p hp2
              apply hL2
              simp only [L23_2, l23_2, ex,reduceIte,reduceCtorEq,Nat.reduceEqDiff,Nat.reduceLT,Nat.reduceLeDiff,Nat.reduceAdd,Nat.reduceSub,Nat.reduceMul,Int.reduceAdd,Int.reduceSub,Int.reduceMul,Int.reduceNeg,Int.reduceLE,Int.reduceLT,Int.reduceEq,Int.reduceToNat]
              have h1 : decide ((p : Int) < (a1'.length : Int)) = true := by simp; omega
              have h2 : decide ((p : Int) < (b1'.length : Int)) = true := by simp; omega
              have hs := hslt (m := p) (by omega)
              have g1 := hs.choose_spec.1
              have g2 := hs.choose_spec.2
              generalize hs.choose = x at g1 g2
              have h3 : decide (x = x) = true := by simp
              have t1 : ((a1'.length : Int) - 1 - (p : Int)).toNat = a1'.length - 1 - p := by omega
              have t2 : ((b1'.length : Int) - 1 - (p : Int)).toNat = b1'.length - 1 - p := by omega
              (try simp only [h1, h2, t1, t2, g1, g2, h3, hsR_clr, ex,reduceIte,reduceCtorEq,Nat.reduceEqDiff,Nat.reduceLT,Nat.reduceLeDiff,Nat.reduceAdd,Nat.reduceSub,Nat.reduceMul,Int.reduceAdd,Int.reduceSub,Int.reduceMul,Int.reduceNeg,Int.reduceLE,Int.reduceLT,Int.reduceEq,Int.reduceToNat]) <;> repeat ((with_reducible refine Req.intro ?_ ?_); (first | omega | (simp <;> omega)); try simp only [h1, h2, t1, t2, g1, g2, h3, hsR_clr, ex,reduceIte,reduceCtorEq,Nat.reduceEqDiff,Nat.reduceLT,Nat.reduceLeDiff,Nat.reduceAdd,Nat.reduceSub,Nat.reduceMul,Int.reduceAdd,Int.reduceSub,Int.reduceMul,Int.reduceNeg,Int.reduceLE,Int.reduceLT,Int.reduceEq,Int.reduceToNat])
              exact ih2 (p + 1) (by omega)
            | zero =>
              intro p hp2
              have hp' : p = m := by omega
              subst hp'
              have u1 : ((a1'.length : Int) - (p : Int)).toNat = a.length - q - p := by omega
              have u2 : ((b1'.length : Int) - (p : Int)).toNat = b.length - q - p := by omega
              have hA1 := hA0.symm
              have hB1 := hB0.symm
              apply hL2
              simp only [L23_2, l23_2, ex,reduceIte,reduceCtorEq,Nat.reduceEqDiff,Nat.reduceLT,Nat.reduceLeDiff,Nat.reduceAdd,Nat.reduceSub,Nat.reduceMul,Int.reduceAdd,Int.reduceSub,Int.reduceMul,Int.reduceNeg,Int.reduceLE,Int.reduceLT,Int.reduceEq,Int.reduceToNat]
              apply shareL
              · intro share
                rcases Nat.lt_or_ge p a1'.length with c1 | c1
                · have h1 : decide ((p : Int) < (a1'.length : Int)) = true := by simp; omega
                  rcases Nat.lt_or_ge p b1'.length with c2 | c2
                  · have h2 : decide ((p : Int) < (b1'.length : Int)) = true := by simp; omega
                    have t1 : ((a1'.length : Int) - 1 - (p : Int)).toNat = a1'.length - 1 - p := by omega
                    have t2 : ((b1'.length : Int) - 1 - (p : Int)).toNat = b1'.length - 1 - p := by omega
                    have g1 : a1'[a1'.length - 1 - p]? = some (a1'[a1'.length - 1 - p]'(by omega)) := List.getElem?_eq_getElem _
                    have g2 : b1'[b1'.length - 1 - p]? = some (b1'[b1'.length - 1 - p]'(by omega)) := List.getElem?_eq_getElem _
                    have h3 : decide (a1'[a1'.length - 1 - p]'(by omega) = b1'[b1'.length - 1 - p]'(by omega)) = false := by simpa using hsend c1 c2 g1 g2
                    (try simp only [h1, h2, t1, t2, g1, g2, h3, hsR_clr, u1, u2, hA1, hB1, ex,reduceIte,reduceCtorEq,Nat.reduceEqDiff,Nat.reduceLT,Nat.reduceLeDiff,Nat.reduceAdd,Nat.reduceSub,Nat.reduceMul,Int.reduceAdd,Int.reduceSub,Int.reduceMul,Int.reduceNeg,Int.reduceLE,Int.reduceLT,Int.reduceEq,Int.reduceToNat]) <;> repeat ((with_reducible refine Req.intro ?_ ?_); (first | omega | (simp <;> omega)); try simp only [h1, h2, t1, t2, g1, g2, h3, hsR_clr, u1, u2, hA1, hB1, ex,reduceIte,reduceCtorEq,Nat.reduceEqDiff,Nat.reduceLT,Nat.reduceLeDiff,Nat.reduceAdd,Nat.reduceSub,Nat.reduceMul,Int.reduceAdd,Int.reduceSub,Int.reduceMul,Int.reduceNeg,Int.reduceLE,Int.reduceLT,Int.reduceEq,Int.reduceToNat])
                    exact share.out
                  · have h2 : decide ((p : Int) < (b1'.length : Int)) = false := by simp; omega
                    (try simp only [h1, h2, hsR_clr, u1, u2, hA1, hB1, ex,reduceIte,reduceCtorEq,Nat.reduceEqDiff,Nat.reduceLT,Nat.reduceLeDiff,Nat.reduceAdd,Nat.reduceSub,Nat.reduceMul,Int.reduceAdd,Int.reduceSub,Int.reduceMul,Int.reduceNeg,Int.reduceLE,Int.reduceLT,Int.reduceEq,Int.reduceToNat]) <;> repeat ((with_reducible refine Req.intro ?_ ?_); (first | omega | (simp <;> omega)); try simp only [h1, h2, hsR_clr, u1, u2, hA1, hB1, ex,reduceIte,reduceCtorEq,Nat.reduceEqDiff,Nat.reduceLT,Nat.reduceLeDiff,Nat.reduceAdd,Nat.reduceSub,Nat.reduceMul,Int.reduceAdd,Int.reduceSub,Int.reduceMul,Int.reduceNeg,Int.reduceLE,Int.reduceLT,Int.reduceEq,Int.reduceToNat])
                    exact share.out
                · have h1 : decide ((p : Int) < (a1'.length : Int)) = false := by simp; omega
                  (try simp only [h1, hsR_clr, u1, u2, hA1, hB1, ex,reduceIte,reduceCtorEq,Nat.reduceEqDiff,Nat.reduceLT,Nat.reduceLeDiff,Nat.reduceAdd,Nat.reduceSub,Nat.reduceMul,Int.reduceAdd,Int.reduceSub,Int.reduceMul,Int.reduceNeg,Int.reduceLE,Int.reduceLT,Int.reduceEq,Int.reduceToNat]) <;> repeat ((with_reducible refine Req.intro ?_ ?_); (first | omega | (simp <;> omega)); try simp only [h1, hsR_clr, u1, u2, hA1, hB1, ex,reduceIte,reduceCtorEq,Nat.reduceEqDiff,Nat.reduceLT,Nat.reduceLeDiff,Nat.reduceAdd,Nat.reduceSub,Nat.reduceMul,Int.reduceAdd,Int.reduceSub,Int.reduceMul,Int.reduceNeg,Int.reduceLE,Int.reduceLT,Int.reduceEq,Int.reduceToNat])
                  exact share.out
              · have aF := fun (w : Bool) (b c : Nat) (X : List Rn) (hX : X.length ≤ 1000000) k t => app_R (b := b) (n := c) (out := X) (⟨a2.length + (i + q), b2.length + (j + q), p⟩ : Rn) (A := (i : Int) + (q : Int) + (a1'.length : Int) - (p : Int)) (B := (j : Int) + (q : Int) + (b1'.length : Int) - (p : Int)) (N := (p : Int)) (w := w) (k := k) (t := t) (by simp only; omega) (by simp only; omega) rfl hX
                rcases Classical.em (a2 = []) with e | e
                · have h1 : decide ((a2.length : Int) > 0) = false := by rw [e]; decide
                  have hZ3 : out ++ shR i j Z = out1 ++ [⟨a2.length + (i + q), b2.length + (j + q), p⟩] := by
                    rw [hZ2, if_pos (.inl e)]; simp [shR]
                  have aG := fun w c k t => aF w n c out1 (by omega) k t
                  (try simp only [h1, hsR_clr, aG, ex,reduceIte,reduceCtorEq,Nat.reduceEqDiff,Nat.reduceLT,Nat.reduceLeDiff,Nat.reduceAdd,Nat.reduceSub,Nat.reduceMul,Int.reduceAdd,Int.reduceSub,Int.reduceMul,Int.reduceNeg,Int.reduceLE,Int.reduceLT,Int.reduceEq,Int.reduceToNat]) <;> repeat ((with_reducible refine Req.intro ?_ ?_); (first | omega | (simp <;> omega)); try simp only [h1, hsR_clr, aG, ex,reduceIte,reduceCtorEq,Nat.reduceEqDiff,Nat.reduceLT,Nat.reduceLeDiff,Nat.reduceAdd,Nat.reduceSub,Nat.reduceMul,Int.reduceAdd,Int.reduceSub,Int.reduceMul,Int.reduceNeg,Int.reduceLE,Int.reduceLT,Int.reduceEq,Int.reduceToNat])
                  exact ⟨_, by rw [hZ3], by rw [hZ3]⟩
                rcases Classical.em (b2 = []) with e' | e'
                · have l1 : 0 < a2.length := List.length_pos_iff.2 e
                  have h1 : decide ((a2.length : Int) > 0) = true := by simp; omega
                  have h2 : decide ((b2.length : Int) > 0) = false := by rw [e']; decide
                  have hZ3 : out ++ shR i j Z = out1 ++ [⟨a2.length + (i + q), b2.length + (j + q), p⟩] := by
                    rw [hZ2, if_pos (.inr e')]; simp [shR]
                  have aG := fun w c k t => aF w n c out1 (by omega) k t
                  (try simp only [h1, h2, hsR_clr, aG, ex,reduceIte,reduceCtorEq,Nat.reduceEqDiff,Nat.reduceLT,Nat.reduceLeDiff,Nat.reduceAdd,Nat.reduceSub,Nat.reduceMul,Int.reduceAdd,Int.reduceSub,Int.reduceMul,Int.reduceNeg,Int.reduceLE,Int.reduceLT,Int.reduceEq,Int.reduceToNat]) <;> repeat ((with_reducible refine Req.intro ?_ ?_); (first | omega | (simp <;> omega)); try simp only [h1, h2, hsR_clr, aG, ex,reduceIte,reduceCtorEq,Nat.reduceEqDiff,Nat.reduceLT,Nat.reduceLeDiff,Nat.reduceAdd,Nat.reduceSub,Nat.reduceMul,Int.reduceAdd,Int.reduceSub,Int.reduceMul,Int.reduceNeg,Int.reduceLE,Int.reduceLT,Int.reduceEq,Int.reduceToNat])
                  exact ⟨_, by rw [hZ3], by rw [hZ3]⟩
                have l1 : 0 < a2.length := List.length_pos_iff.2 e
                have l2 : 0 < b2.length := List.length_pos_iff.2 e'
                have h1 : decide ((a2.length : Int) > 0) = true := by simp; omega
                have h2 : decide ((b2.length : Int) > 0) = true := by simp; omega
                rw [if_neg (fun h => h.elim e e')] at hZ2
                unfold midz at hZ2
                have hPf := pRes_fits a2 b2
                (try simp only [h1, h2, hsR_clr, ex,reduceIte,reduceCtorEq,Nat.reduceEqDiff,Nat.reduceLT,Nat.reduceLeDiff,Nat.reduceAdd,Nat.reduceSub,Nat.reduceMul,Int.reduceAdd,Int.reduceSub,Int.reduceMul,Int.reduceNeg,Int.reduceLE,Int.reduceLT,Int.reduceEq,Int.reduceToNat]) <;> repeat ((with_reducible refine Req.intro ?_ ?_); (first | omega | (simp <;> omega)); try simp only [h1, h2, hsR_clr, ex,reduceIte,reduceCtorEq,Nat.reduceEqDiff,Nat.reduceLT,Nat.reduceLeDiff,Nat.reduceAdd,Nat.reduceSub,Nat.reduceMul,Int.reduceAdd,Int.reduceSub,Int.reduceMul,Int.reduceNeg,Int.reduceLE,Int.reduceLT,Int.reduceEq,Int.reduceToNat])
                refine CallA.eq rfl (anchor_spec _ _ a2 b2 (by omega) (by omega)) rfl ?_
                cases hf : (pRes a2 b2).found with
                | true =>
                  have hP := hPf hf
                  rw [if_pos hf] at hZ2
                  generalize (pRes a2 b2).best = r at *
                  have p1 := hP.2.1
                  have p2 := hP.2.2.1
                  have p3 := hP.2.2.2
                  have q1 := stz_len k (a2.take r.A) (b2.take r.B) (by simp; omega) (by simp; omega)
                  have q2 := stz_len k (a2.drop (r.A + r.N)) (b2.drop (r.B + r.N)) (by simp; omega) (by simp; omega)
                  have lt1 : (a2.take r.A).length = r.A := by simp; omega
                  have lt2 : (b2.take r.B).length = r.B := by simp; omega
                  have ld1 : (a2.drop (r.A + r.N)).length = a2.length - (r.A + r.N) := by simp
                  have ld2 : (b2.drop (r.B + r.N)).length = b2.length - (r.B + r.N) := by simp
                  (try simp only [hsR_clr, ex,reduceIte,reduceCtorEq,Nat.reduceEqDiff,Nat.reduceLT,Nat.reduceLeDiff,Nat.reduceAdd,Nat.reduceSub,Nat.reduceMul,Int.reduceAdd,Int.reduceSub,Int.reduceMul,Int.reduceNeg,Int.reduceLE,Int.reduceLT,Int.reduceEq,Int.reduceToNat]) <;> repeat ((with_reducible refine Req.intro ?_ ?_); (first | omega | (simp <;> omega)); try simp only [hsR_clr, ex,reduceIte,reduceCtorEq,Nat.reduceEqDiff,Nat.reduceLT,Nat.reduceLeDiff,Nat.reduceAdd,Nat.reduceSub,Nat.reduceMul,Int.reduceAdd,Int.reduceSub,Int.reduceMul,Int.reduceNeg,Int.reduceLE,Int.reduceLT,Int.reduceEq,Int.reduceToNat])
                  refine CallHD.any (ih _ _ (a2.take r.A) (b2.take r.B) out1 (i + q) (j + q) n _ (by omega) (by omega) (by omega) (by omega) (by omega) (by omega)) ?_
                  intro r1 h1' n1 hx
                  have hx1 := hx.choose_spec
                  generalize hx.choose = bk1 at hx1
                  have hr1 := hx1.1
                  have hh1 := hx1.2
                  clear hx hx1
                  have lo2 : (out1 ++ shR (i + q) (j + q) (stz k (a2.take r.A) (b2.take r.B))).length = out1.length + (stz k (a2.take r.A) (b2.take r.B)).length := by rw [List.length_append, shR_len]
                  have hZ3 : out ++ shR i j Z = (((out1 ++ shR (i + q) (j + q) (stz k (a2.take r.A) (b2.take r.B))) ++ [⟨i + q + r.A, j + q + r.B, r.N⟩]) ++ shR (i + q + r.A + r.N) (j + q + r.B + r.N) (stz k (a2.drop (r.A + r.N)) (b2.drop (r.B + r.N)))) ++ [⟨a2.length + (i + q), b2.length + (j + q), p⟩] := by
                    rw [hZ2, shR_app, show ∀ (x : Rn) (l : List Rn), shR (i + q) (j + q) (x :: l) = movR (i + q) (j + q) x :: shR (i + q) (j + q) l from fun _ _ => rfl, shR_shR]
                    rw [show movR (i + q) (j + q) r = ⟨i + q + r.A, j + q + r.B, r.N⟩ by simp only [movR]; rw [Nat.add_comm r.A, Nat.add_comm r.B]]
                    rw [show r.A + r.N + (i + q) = i + q + r.A + r.N by omega, show r.B + r.N + (j + q) = j + q + r.B + r.N by omega]
                    simp only [List.append_assoc, List.cons_append, List.nil_append]
                  generalize out1 ++ shR (i + q) (j + q) (stz k (a2.take r.A) (b2.take r.B)) = out2 at *
                  have aR := fun (w : Bool) (c : Nat) k t => app_R (b := bk1) (n := c) (out := out2) (⟨i + q + r.A, j + q + r.B, r.N⟩ : Rn) (A := (i : Int) + (q : Int) + (r.A : Int)) (B := (j : Int) + (q : Int) + (r.B : Int)) (N := (r.N : Int)) (w := w) (k := k) (t := t) (by simp only; omega) (by simp only; omega) rfl (by omega)
                  (try simp only [hr1, hh1, hsR_clr, aR, ex,reduceIte,reduceCtorEq,Nat.reduceEqDiff,Nat.reduceLT,Nat.reduceLeDiff,Nat.reduceAdd,Nat.reduceSub,Nat.reduceMul,Int.reduceAdd,Int.reduceSub,Int.reduceMul,Int.reduceNeg,Int.reduceLE,Int.reduceLT,Int.reduceEq,Int.reduceToNat]) <;> repeat ((with_reducible refine Req.intro ?_ ?_); (first | omega | (simp <;> omega)); try simp only [hr1, hh1, hsR_clr, aR, ex,reduceIte,reduceCtorEq,Nat.reduceEqDiff,Nat.reduceLT,Nat.reduceLeDiff,Nat.reduceAdd,Nat.reduceSub,Nat.reduceMul,Int.reduceAdd,Int.reduceSub,Int.reduceMul,Int.reduceNeg,Int.reduceLE,Int.reduceLT,Int.reduceEq,Int.reduceToNat])
                  have lo3 : (out2 ++ [(⟨i + q + r.A, j + q + r.B, r.N⟩ : Rn)]).length = out2.length + 1 := by simp
                  generalize out2 ++ [(⟨i + q + r.A, j + q + r.B, r.N⟩ : Rn)] = out3 at *
                  refine CallHD.any (ih _ _ (a2.drop (r.A + r.N)) (b2.drop (r.B + r.N)) out3 (i + q + r.A + r.N) (j + q + r.B + r.N) _ _ (by omega) (by omega) (by omega) (by omega) (by omega) (by omega)) ?_
                  intro r2 h2' n2 hx
                  have hx1 := hx.choose_spec
                  generalize hx.choose = bk2 at hx1
                  have hr2 := hx1.1
                  have hh2 := hx1.2
                  clear hx hx1
                  have lo4 : (out3 ++ shR (i + q + r.A + r.N) (j + q + r.B + r.N) (stz k (a2.drop (r.A + r.N)) (b2.drop (r.B + r.N)))).length = out3.length + (stz k (a2.drop (r.A + r.N)) (b2.drop (r.B + r.N))).length := by rw [List.length_append, shR_len]
                  generalize out3 ++ shR (i + q + r.A + r.N) (j + q + r.B + r.N) (stz k (a2.drop (r.A + r.N)) (b2.drop (r.B + r.N))) = out4 at *
                  have aG := fun w c k t => aF w bk2 c out4 (by omega) k t
                  (try simp only [hr2, hh2, hsR_clr, aG, ex,reduceIte,reduceCtorEq,Nat.reduceEqDiff,Nat.reduceLT,Nat.reduceLeDiff,Nat.reduceAdd,Nat.reduceSub,Nat.reduceMul,Int.reduceAdd,Int.reduceSub,Int.reduceMul,Int.reduceNeg,Int.reduceLE,Int.reduceLT,Int.reduceEq,Int.reduceToNat]) <;> repeat ((with_reducible refine Req.intro ?_ ?_); (first | omega | (simp <;> omega)); try simp only [hr2, hh2, hsR_clr, aG, ex,reduceIte,reduceCtorEq,Nat.reduceEqDiff,Nat.reduceLT,Nat.reduceLeDiff,Nat.reduceAdd,Nat.reduceSub,Nat.reduceMul,Int.reduceAdd,Int.reduceSub,Int.reduceMul,Int.reduceNeg,Int.reduceLE,Int.reduceLT,Int.reduceEq,Int.reduceToNat])
                  exact ⟨_, by rw [hZ3], by rw [hZ3]⟩
                | false =>
                  rw [if_neg (by rw [hf]; decide)] at hZ2
                  generalize (pRes a2 b2).best = r at *
                  (try simp only [hsR_clr, ex,reduceIte,reduceCtorEq,Nat.reduceEqDiff,Nat.reduceLT,Nat.reduceLeDiff,Nat.reduceAdd,Nat.reduceSub,Nat.reduceMul,Int.reduceAdd,Int.reduceSub,Int.reduceMul,Int.reduceNeg,Int.reduceLE,Int.reduceLT,Int.reduceEq,Int.reduceToNat]) <;> repeat ((with_reducible refine Req.intro ?_ ?_); (first | omega | (simp <;> omega)); try simp only [hsR_clr, ex,reduceIte,reduceCtorEq,Nat.reduceEqDiff,Nat.reduceLT,Nat.reduceLeDiff,Nat.reduceAdd,Nat.reduceSub,Nat.reduceMul,Int.reduceAdd,Int.reduceSub,Int.reduceMul,Int.reduceNeg,Int.reduceLE,Int.reduceLT,Int.reduceEq,Int.reduceToNat])
                  have hsm := leastEd_small a2 b2 (by omega) (by omega)
                  refine CallA.eq rfl (least_spec _ _ a2 b2 (by omega) (by omega)) rfl ?_
                  (try simp only [hsR_clr, ex,reduceIte,reduceCtorEq,Nat.reduceEqDiff,Nat.reduceLT,Nat.reduceLeDiff,Nat.reduceAdd,Nat.reduceSub,Nat.reduceMul,Int.reduceAdd,Int.reduceSub,Int.reduceMul,Int.reduceNeg,Int.reduceLE,Int.reduceLT,Int.reduceEq,Int.reduceToNat]) <;> repeat ((with_reducible refine Req.intro ?_ ?_); (first | omega | (simp <;> omega)); try simp only [hsR_clr, ex,reduceIte,reduceCtorEq,Nat.reduceEqDiff,Nat.reduceLT,Nat.reduceLeDiff,Nat.reduceAdd,Nat.reduceSub,Nat.reduceMul,Int.reduceAdd,Int.reduceSub,Int.reduceMul,Int.reduceNeg,Int.reduceLE,Int.reduceLT,Int.reduceEq,Int.reduceToNat])
                  refine CallA.eq rfl (unchanged_spec _ (leastEd a2 b2) a2.length hsm.1 (by omega)) rfl ?_
                  have hlr : unch a2.length (leastEd a2 b2) 0 0 = leastRn a2 b2 := rfl
                  have hll : (leastRn a2 b2).length ≤ a2.length + b2.length + 2 := by
                    have := unch_len a2.length (leastEd a2 b2) 0 0
                    unfold leastRn; omega
                  have hbd := Com.fitall (leastRn_com a2 b2 (by omega) (by omega)).1
                  rw [hlr]
                  generalize leastRn a2 b2 = l at *
                  (try simp only [hsR_clr, ex,reduceIte,reduceCtorEq,Nat.reduceEqDiff,Nat.reduceLT,Nat.reduceLeDiff,Nat.reduceAdd,Nat.reduceSub,Nat.reduceMul,Int.reduceAdd,Int.reduceSub,Int.reduceMul,Int.reduceNeg,Int.reduceLE,Int.reduceLT,Int.reduceEq,Int.reduceToNat]) <;> repeat ((with_reducible refine Req.intro ?_ ?_); (first | omega | (simp <;> omega)); try simp only [hsR_clr, ex,reduceIte,reduceCtorEq,Nat.reduceEqDiff,Nat.reduceLT,Nat.reduceLeDiff,Nat.reduceAdd,Nat.reduceSub,Nat.reduceMul,Int.reduceAdd,Int.reduceSub,Int.reduceMul,Int.reduceNeg,Int.reduceLE,Int.reduceLT,Int.reduceEq,Int.reduceToNat])
                  refine loopI fun L3 hL3 => ?_
                  (try simp only [hsR_clr, ex,reduceIte,reduceCtorEq,Nat.reduceEqDiff,Nat.reduceLT,Nat.reduceLeDiff,Nat.reduceAdd,Nat.reduceSub,Nat.reduceMul,Int.reduceAdd,Int.reduceSub,Int.reduceMul,Int.reduceNeg,Int.reduceLE,Int.reduceLT,Int.reduceEq,Int.reduceToNat]) <;> repeat ((with_reducible refine Req.intro ?_ ?_); (first | omega | (simp <;> omega)); try simp only [hsR_clr, ex,reduceIte,reduceCtorEq,Nat.reduceEqDiff,Nat.reduceLT,Nat.reduceLeDiff,Nat.reduceAdd,Nat.reduceSub,Nat.reduceMul,Int.reduceAdd,Int.reduceSub,Int.reduceMul,Int.reduceNeg,Int.reduceLE,Int.reduceLT,Int.reduceEq,Int.reduceToNat])
                  have key3 : ∀ (m3 p3 bk3 c3 : Nat) (out3 : List Rn), p3 + m3 = l.length → out3.length = out1.length + p3 → out1 ++ shR (i + q) (j + q) l = out3 ++ shR (i + q) (j + q) (l.drop p3) →
                      L3 (L23_3 (hsR bk3 out3) (.int .i64 ((i : Int) + (q : Int))) (.int .i64 ((j : Int) + (q : Int))) (.ptr (n + 1) 3 0 0) (.sl true 3 (l.map rnV)) (.int .i64 l.length) (.int .i64 p3) (n + 1) [.int .i64 ((i : Int) + (q : Int) + (a1'.length : Int) - (p : Int)), .int .i64 ((j : Int) + (q : Int) + (b1'.length : Int) - (p : Int)), .int .i64 (p : Int)] (oH bk3 out3) c3) := by
                    intro m3
                    induction m3 with
                    | zero =>
                      intro p3 bk3 c3 out3 hp3 ho3 he3
                      apply hL3
                      simp only [L23_3, l23_3, ex,reduceIte,reduceCtorEq,Nat.reduceEqDiff,Nat.reduceLT,Nat.reduceLeDiff,Nat.reduceAdd,Nat.reduceSub,Nat.reduceMul,Int.reduceAdd,Int.reduceSub,Int.reduceMul,Int.reduceNeg,Int.reduceLE,Int.reduceLT,Int.reduceEq,Int.reduceToNat]
                      have h1 : decide ((p3 : Int) < (l.length : Int)) = false := by simp; omega
                      rw [List.drop_of_length_le (by omega)] at he3
                      have aG := fun w c k t => aF w bk3 c out3 (by omega) k t
                      have hZ3 : out ++ shR i j Z = out3 ++ [⟨a2.length + (i + q), b2.length + (j + q), p⟩] := by
                        rw [hZ2, he3]; simp [shR]
                      (try simp only [h1, hsR_clr, aG, ex,reduceIte,reduceCtorEq,Nat.reduceEqDiff,Nat.reduceLT,Nat.reduceLeDiff,Nat.reduceAdd,Nat.reduceSub,Nat.reduceMul,Int.reduceAdd,Int.reduceSub,Int.reduceMul,Int.reduceNeg,Int.reduceLE,Int.reduceLT,Int.reduceEq,Int.reduceToNat]) <;> repeat ((with_reducible refine Req.intro ?_ ?_); (first | omega | (simp <;> omega)); try simp only [h1, hsR_clr, aG, ex,reduceIte,reduceCtorEq,Nat.reduceEqDiff,Nat.reduceLT,Nat.reduceLeDiff,Nat.reduceAdd,Nat.reduceSub,Nat.reduceMul,Int.reduceAdd,Int.reduceSub,Int.reduceMul,Int.reduceNeg,Int.reduceLE,Int.reduceLT,Int.reduceEq,Int.reduceToNat])
                      exact ⟨_, by rw [hZ3], by rw [hZ3]⟩
                    | succ m3 ih3 =>
                      intro p3 bk3 c3 out3 hp3 ho3 he3
                      apply hL3
                      simp only [L23_3, l23_3, ex,reduceIte,reduceCtorEq,Nat.reduceEqDiff,Nat.reduceLT,Nat.reduceLeDiff,Nat.reduceAdd,Nat.reduceSub,Nat.reduceMul,Int.reduceAdd,Int.reduceSub,Int.reduceMul,Int.reduceNeg,Int.reduceLE,Int.reduceLT,Int.reduceEq,Int.reduceToNat]
                      have h1 : decide ((p3 : Int) < (l.length : Int)) = true := by simp; omega
                      have g1 : l[p3]? = some (l[p3]'(by omega)) := List.getElem?_eq_getElem _
                      have hb3 := hbd (l[p3]'(by omega)) (List.getElem_mem _)
                      rw [List.drop_eq_getElem_cons (by omega)] at he3
                      generalize hx : l[p3]'(by omega) = r3 at g1 hb3 he3
                      have aR := fun (w : Bool) (c : Nat) k t => app_R (b := bk3) (n := c) (out := out3) (⟨i + q + r3.A, j + q + r3.B, r3.N⟩ : Rn) (A := (i : Int) + (q : Int) + (r3.A : Int)) (B := (j : Int) + (q : Int) + (r3.B : Int)) (N := (r3.N : Int)) (w := w) (k := k) (t := t) (by simp only; omega) (by simp only; omega) rfl (by omega)
                      have hb4 := hb3.1
                      have hb5 := hb3.2
                      (try simp only [h1, g1, rnV, hsR_clr, aR, ex,reduceIte,reduceCtorEq,Nat.reduceEqDiff,Nat.reduceLT,Nat.reduceLeDiff,Nat.reduceAdd,Nat.reduceSub,Nat.reduceMul,Int.reduceAdd,Int.reduceSub,Int.reduceMul,Int.reduceNeg,Int.reduceLE,Int.reduceLT,Int.reduceEq,Int.reduceToNat]) <;> repeat ((with_reducible refine Req.intro ?_ ?_); (first | omega | (simp <;> omega)); try simp only [h1, g1, rnV, hsR_clr, aR, ex,reduceIte,reduceCtorEq,Nat.reduceEqDiff,Nat.reduceLT,Nat.reduceLeDiff,Nat.reduceAdd,Nat.reduceSub,Nat.reduceMul,Int.reduceAdd,Int.reduceSub,Int.reduceMul,Int.reduceNeg,Int.reduceLE,Int.reduceLT,Int.reduceEq,Int.reduceToNat])
                      refine ih3 (p3 + 1) _ _ _ (by omega) (by simp; omega) ?_
                      rw [he3]
                      simp only [shR, List.map_cons, movR, List.append_assoc, List.cons_append, List.nil_append]
                      rw [Nat.add_comm r3.A, Nat.add_comm r3.B]
                  exact key3 l.length 0 n _ out1 (Nat.zero_add _) rfl (by simp)
          exact key2 m 0 (Nat.zero_add _)
    exact key1 p 0 (Nat.zero_add _)
end Go.Proofs.Ytmmcepbcjlopdaa.E.Hs

/- histo.Script: walked. Conditions: none. -/
namespace Go.Proofs.Ytmmcepbcjlopdaa.E.Hs
set_option linter.unusedVariables false
set_option linter.unusedSimpArgs false
set_option maxHeartbeats 20000000
set_option maxRecDepth 100000

/-- The runs that stay. -/
def keptR (a b : List S) : List Rn := (stz (a.length + b.length + 1) a b).filter nz
def scriptE (a b : List S) : List Ed := edsOf a.length b.length (keptR a b) 0 0
theorem keptR_len (a b : List S) (ha : a.length ≤ 4096) (hb : b.length ≤ 4096) : (keptR a b).length ≤ 4 * (a.length + b.length) + 2 :=
  Nat.le_trans (List.length_filter_le _ _) (stz_len _ a b (by omega) (by omega))
theorem keptR_com (a b : List S) (ha : a.length ≤ 4096) (hb : b.length ≤ 4096) : Com a b (keptR a b) 0 0 := stz_com _ a b ha hb
theorem stz_ne (k : Nat) (a b : List S) : stz (k + 1) a b ≠ [] := by rw [stz_succ]; simp
theorem map_rnV_no : ∀ l : List Rn, (l.map rnV).all noH2 = true
  | [] => rfl
  | r :: l => by simp only [List.map_cons, List.all_cons, map_rnV_no l, Bool.and_true]; rfl
theorem frz_R {b m : Nat} {L : List V} {l : List Rn} {n : Nat} {k : V × Heap × Nat → Prop} {t : Tag k} (h1 : l.length ≤ L.length) (h2 : L.take l.length = l.map rnV) (hall : L.all noH2 = true) : WK (hf (.frz 3) [.hs b 3 0 l.length] (rH b L) n) k t = k (.sl false 3 (l.map rnV), [], 0) := by
  simp only [hf, rH, get_cons, if_true, WK]
  rw [if_neg (by decide), if_pos ⟨trivial, by omega, hall⟩]
  simp only [W, List.drop_zero, h2, del_cons, if_true]
  rw [show (l.map rnV).map clr2 = l.map rnV by rw [List.map_map]; rfl]

theorem script_spec (o o' : Bool) (a b : List S) (ha : a.length ≤ 4096) (hb : b.length ≤ 4096) :
    Run tab 11 0 [.sl o 1 (a.map .str), .sl o' 1 (b.map .str)] [] 0 (fun r _ _ => r = .sl false 4 ((scriptE a b).map edV)) := by
  refine enter (F := f11) rfl rfl ?_
  simp only [f11, ex,reduceIte,reduceCtorEq,Nat.reduceEqDiff,Nat.reduceLT,Nat.reduceLeDiff,Nat.reduceAdd,Nat.reduceSub,Nat.reduceMul,Int.reduceAdd,Int.reduceSub,Int.reduceMul,Int.reduceNeg,Int.reduceLE,Int.reduceLT,Int.reduceEq,Int.reduceToNat]
  (try simp only [ex,reduceIte,reduceCtorEq,Nat.reduceEqDiff,Nat.reduceLT,Nat.reduceLeDiff,Nat.reduceAdd,Nat.reduceSub,Nat.reduceMul,Int.reduceAdd,Int.reduceSub,Int.reduceMul,Int.reduceNeg,Int.reduceLE,Int.reduceLT,Int.reduceEq,Int.reduceToNat]) <;> repeat ((with_reducible refine Req.intro ?_ ?_); (first | omega | (simp <;> omega)); try simp only [ex,reduceIte,reduceCtorEq,Nat.reduceEqDiff,Nat.reduceLT,Nat.reduceLeDiff,Nat.reduceAdd,Nat.reduceSub,Nat.reduceMul,Int.reduceAdd,Int.reduceSub,Int.reduceMul,Int.reduceNeg,Int.reduceLE,Int.reduceLT,Int.reduceEq,Int.reduceToNat])
  refine CallH.any (stays_spec (a.length + b.length + 1) _ _ a b [] 0 0 0 0 ha hb (by omega) (by omega) (by omega) (by simp; omega)) ?_
  intro r1 h1 n1 hx
  have hx1 := hx.choose_spec
  generalize hx.choose = bk1 at hx1
  have hne := stz_ne (a.length + b.length) a b
  have hr1 := hx1.1
  have hh1 := hx1.2
  clear hx hx1
  rw [List.nil_append, shR_zero, hsR, if_neg hne] at hr1
  rw [List.nil_append, shR_zero, oH, if_neg hne] at hh1
  have hlen := stz_len (a.length + b.length + 1) a b (by omega) (by omega)
  have hk : keptR a b = (stz (a.length + b.length + 1) a b).filter nz := rfl
  have hfit := (keptR_com a b ha hb).fit
  have hkl := keptR_len a b ha hb
  unfold scriptE
  generalize stz (a.length + b.length + 1) a b = Z at *
  generalize keptR a b = K at *
  (try simp only [hr1, hh1, ex,reduceIte,reduceCtorEq,Nat.reduceEqDiff,Nat.reduceLT,Nat.reduceLeDiff,Nat.reduceAdd,Nat.reduceSub,Nat.reduceMul,Int.reduceAdd,Int.reduceSub,Int.reduceMul,Int.reduceNeg,Int.reduceLE,Int.reduceLT,Int.reduceEq,Int.reduceToNat]) <;> repeat ((with_reducible refine Req.intro ?_ ?_); (first | omega | (simp <;> omega)); try simp only [hr1, hh1, ex,reduceIte,reduceCtorEq,Nat.reduceEqDiff,Nat.reduceLT,Nat.reduceLeDiff,Nat.reduceAdd,Nat.reduceSub,Nat.reduceMul,Int.reduceAdd,Int.reduceSub,Int.reduceMul,Int.reduceNeg,Int.reduceLE,Int.reduceLT,Int.reduceEq,Int.reduceToNat])
  refine CallH.any (deleteZ_spec bk1 _ Z (by omega)) ?_
  intro r2 h2 n2 hx
  have hr2 := hx.1
  have hx1 := hx.2.choose_spec
  generalize hx.2.choose = L at hx1
  have hh2 := hx1.1
  have hl2 := hx1.2.1
  have ht2 := hx1.2.2.1
  have ha2 := hx1.2.2.2
  clear hx hx1
  rw [← hk] at hr2 hl2 ht2
  have hfz := fun n k t => frz_R (b := bk1) (m := 0) (n := n) (k := k) (t := t) hl2 ht2 ha2
  (try simp only [hr2, hh2, hfz, ex,reduceIte,reduceCtorEq,Nat.reduceEqDiff,Nat.reduceLT,Nat.reduceLeDiff,Nat.reduceAdd,Nat.reduceSub,Nat.reduceMul,Int.reduceAdd,Int.reduceSub,Int.reduceMul,Int.reduceNeg,Int.reduceLE,Int.reduceLT,Int.reduceEq,Int.reduceToNat]) <;> repeat ((with_reducible refine Req.intro ?_ ?_); (first | omega | (simp <;> omega)); try simp only [hr2, hh2, hfz, ex,reduceIte,reduceCtorEq,Nat.reduceEqDiff,Nat.reduceLT,Nat.reduceLeDiff,Nat.reduceAdd,Nat.reduceSub,Nat.reduceMul,Int.reduceAdd,Int.reduceSub,Int.reduceMul,Int.reduceNeg,Int.reduceLE,Int.reduceLT,Int.reduceEq,Int.reduceToNat])
  refine CallA.eq rfl (fromRuns_spec _ K a.length b.length hfit (by omega) (by omega) (by omega)) rfl ?_
  (try simp only [ex,reduceIte,reduceCtorEq,Nat.reduceEqDiff,Nat.reduceLT,Nat.reduceLeDiff,Nat.reduceAdd,Nat.reduceSub,Nat.reduceMul,Int.reduceAdd,Int.reduceSub,Int.reduceMul,Int.reduceNeg,Int.reduceLE,Int.reduceLT,Int.reduceEq,Int.reduceToNat]) <;> repeat ((with_reducible refine Req.intro ?_ ?_); (first | omega | (simp <;> omega)); try simp only [ex,reduceIte,reduceCtorEq,Nat.reduceEqDiff,Nat.reduceLT,Nat.reduceLeDiff,Nat.reduceAdd,Nat.reduceSub,Nat.reduceMul,Int.reduceAdd,Int.reduceSub,Int.reduceMul,Int.reduceNeg,Int.reduceLE,Int.reduceLT,Int.reduceEq,Int.reduceToNat])
end Go.Proofs.Ytmmcepbcjlopdaa.E.Hs

/- graftageref08.table: walked. Conditions: none. -/
namespace Go.Proofs.Ytmmcepbcjlopdaa.E.Hs
set_option linter.unusedVariables false
set_option linter.unusedSimpArgs false
set_option maxHeartbeats 20000000
set_option maxRecDepth 100000

/-- The handles of rows, three numbers apart. -/
def hd3 (w m : Nat) : List V := (List.range m).map fun i => .hs (3 * i) 1 0 w
theorem hd3_get {w m i : Nat} (h : i < m) : (hd3 w m)[i]? = some (.hs (3 * i) 1 0 w) := by
  unfold hd3; rw [List.getElem?_map, List.getElem?_range h]; rfl
theorem hd3_snoc (w m : Nat) : hd3 w m ++ [.hs (3 * m) 1 0 w] = hd3 w (m + 1) := by
  unfold hd3; rw [List.range_succ, List.map_append]; rfl
theorem hd3_len (w m : Nat) : (hd3 w m).length = m := by simp [hd3]
theorem rowV_zero {k : IntKind} {w i : Nat} : List.replicate w (V.int k 0) = rowV k w (fun _ _ => 0) i := by
  apply List.ext_getElem
  · simp [rowV]
  · intro q h1 h2; simp [rowV]
/-- A table of rows three numbers apart. -/
def Tb3 (h : Heap) (n w : Nat) (f : Nat → Nat → Nat) : Prop := ∀ i, i < n → get h (3 * i) = some (.rows 1 (rowV .i64 w f i))
theorem Tb3.set {h : Heap} {n w i j v : Nat} {f : Nat → Nat → Nat} (ht : Tb3 h n w f) : Tb3 (set h (3 * i) (.rows 1 ((rowV .i64 w f i).set j (.int .i64 (v : Nat))))) n w (updF f i j v) := by
  intro q hq
  rw [get_set1]
  by_cases e : q = i
  · subst e; rw [if_pos rfl, rowV_set]
  · rw [if_neg (by omega), rowV_other e, ht q hq]

theorem rtable_spec (o o' : Bool) (a b : List S) (ha : a.length ≤ 4096) (hb : b.length ≤ 4096) :
    Run tab 44 0 [.sl o 1 (a.map .str), .sl o' 1 (b.map .str)] [] 0 (fun r h n => ∃ f, r = .hs (3 * a.length + 2) 1 0 (a.length + 1) ∧ n = 3 * a.length + 3 ∧ get h (3 * a.length + 2) = some (.rows 1 (hd3 (b.length + 1) (a.length + 1))) ∧ Tb3 h (a.length + 1) (b.length + 1) f ∧ ∀ i j, i ≤ a.length → j ≤ b.length → f i j = ent a b i j) := by
  refine enter (F := f44) rfl rfl ?_
  simp only [f44, ex,reduceIte,reduceCtorEq,Nat.reduceEqDiff,Nat.reduceLT,Nat.reduceLeDiff,Nat.reduceAdd,Nat.reduceSub,Nat.reduceMul,Int.reduceAdd,Int.reduceSub,Int.reduceMul,Int.reduceNeg,Int.reduceLE,Int.reduceLT,Int.reduceEq,Int.reduceToNat]
  (try simp only [ex,reduceIte,reduceCtorEq,Nat.reduceEqDiff,Nat.reduceLT,Nat.reduceLeDiff,Nat.reduceAdd,Nat.reduceSub,Nat.reduceMul,Int.reduceAdd,Int.reduceSub,Int.reduceMul,Int.reduceNeg,Int.reduceLE,Int.reduceLT,Int.reduceEq,Int.reduceToNat]) <;> repeat ((with_reducible refine Req.intro ?_ ?_); (first | omega | (simp <;> omega)); try simp only [ex,reduceIte,reduceCtorEq,Nat.reduceEqDiff,Nat.reduceLT,Nat.reduceLeDiff,Nat.reduceAdd,Nat.reduceSub,Nat.reduceMul,Int.reduceAdd,Int.reduceSub,Int.reduceMul,Int.reduceNeg,Int.reduceLE,Int.reduceLT,Int.reduceEq,Int.reduceToNat])
  refine loopI fun L1 hL1 => ?_
  (try simp only [ex,reduceIte,reduceCtorEq,Nat.reduceEqDiff,Nat.reduceLT,Nat.reduceLeDiff,Nat.reduceAdd,Nat.reduceSub,Nat.reduceMul,Int.reduceAdd,Int.reduceSub,Int.reduceMul,Int.reduceNeg,Int.reduceLE,Int.reduceLT,Int.reduceEq,Int.reduceToNat]) <;> repeat ((with_reducible refine Req.intro ?_ ?_); (first | omega | (simp <;> omega)); try simp only [ex,reduceIte,reduceCtorEq,Nat.reduceEqDiff,Nat.reduceLT,Nat.reduceLeDiff,Nat.reduceAdd,Nat.reduceSub,Nat.reduceMul,Int.reduceAdd,Int.reduceSub,Int.reduceMul,Int.reduceNeg,Int.reduceLE,Int.reduceLT,Int.reduceEq,Int.reduceToNat])
  have key1 : ∀ (m q : Nat) (h : Heap), q + m = a.length + 1 → (0 < q → get h (3 * q - 1) = some (.rows 1 (hd3 (b.length + 1) q))) → Tb3 h q (b.length + 1) (fun _ _ => 0) → L1 (L44_1 (.sl o 1 (a.map .str)) (.sl o' 1 (b.map .str)) (if q = 0 then .hs 0 0 0 0 else .hs (3 * q - 1) 1 0 q) (.int .i64 ((a.length : Int) + 1)) (.int .i64 q) h (3 * q)) := by
    intro m
    induction m with
    | succ m ih =>
      intro q h hq hh ht
      apply hL1
      simp only [L44_1, l44_1, ex,reduceIte,reduceCtorEq,Nat.reduceEqDiff,Nat.reduceLT,Nat.reduceLeDiff,Nat.reduceAdd,Nat.reduceSub,Nat.reduceMul,Int.reduceAdd,Int.reduceSub,Int.reduceMul,Int.reduceNeg,Int.reduceLE,Int.reduceLT,Int.reduceEq,Int.reduceToNat]
      have h1 : decide ((q : Int) < (a.length : Int) + 1) = true := by simp; omega
      have t2 : ((b.length : Int) + 1).toNat = b.length + 1 := by omega
      rcases Nat.eq_zero_or_pos q with c | c
      · subst c
        (try simp only [h1, t2, appB_nil, get_set_same, hf_appHs, apH_rows, ex,reduceIte,reduceCtorEq,Nat.reduceEqDiff,Nat.reduceLT,Nat.reduceLeDiff,Nat.reduceAdd,Nat.reduceSub,Nat.reduceMul,Int.reduceAdd,Int.reduceSub,Int.reduceMul,Int.reduceNeg,Int.reduceLE,Int.reduceLT,Int.reduceEq,Int.reduceToNat]) <;> repeat ((with_reducible refine Req.intro ?_ ?_); (first | omega | (simp <;> omega)); try simp only [h1, t2, appB_nil, get_set_same, hf_appHs, apH_rows, ex,reduceIte,reduceCtorEq,Nat.reduceEqDiff,Nat.reduceLT,Nat.reduceLeDiff,Nat.reduceAdd,Nat.reduceSub,Nat.reduceMul,Int.reduceAdd,Int.reduceSub,Int.reduceMul,Int.reduceNeg,Int.reduceLE,Int.reduceLT,Int.reduceEq,Int.reduceToNat])
        have h9 := ih 1 (set (set (set h 0 (Blk.rows 1 (List.replicate (b.length + 1) (V.int .i64 0)))) 1 (Blk.rows 1 [V.hs 0 1 0 (b.length + 1)])) 2 (Blk.rows 1 [V.hs 0 1 0 (b.length + 1)])) (by omega) (fun _ => get_set_same) (fun i hi => by
          have : i = 0 := by omega
          subst this
          rw [get_set_other (by decide), get_set_other (by decide), get_set_same, rowV_zero (i := 0)])
        exact h9
      · have c0 : (q = 0) = False := by simp; omega
        have hh := hh c
        have s1 : get (set (set h (3 * q) (Blk.rows 1 (List.replicate (b.length + 1) (V.int IntKind.i64 0)))) (3 * q + 1) (Blk.rows 1 [V.hs (3 * q) 1 0 (b.length + 1)])) (3 * q - 1) = some (.rows 1 (hd3 (b.length + 1) q)) := by
          rw [get_set_other (by omega), get_set_other (by omega), hh]
        have hl := hd3_len (b.length + 1) q
        have hs := hd3_snoc (b.length + 1) q
        have hk : (hd3 (b.length + 1) q).take q = hd3 (b.length + 1) q := List.take_of_length_le (by omega)
        (try simp only [h1, t2, c0, appB_put, apB_rows, get_set_same, hf_appHs, apH_rows, s1, hk, hs, hl, ex,reduceIte,reduceCtorEq,Nat.reduceEqDiff,Nat.reduceLT,Nat.reduceLeDiff,Nat.reduceAdd,Nat.reduceSub,Nat.reduceMul,Int.reduceAdd,Int.reduceSub,Int.reduceMul,Int.reduceNeg,Int.reduceLE,Int.reduceLT,Int.reduceEq,Int.reduceToNat]) <;> repeat ((with_reducible refine Req.intro ?_ ?_); (first | omega | (simp <;> omega)); try simp only [h1, t2, c0, appB_put, apB_rows, get_set_same, hf_appHs, apH_rows, s1, hk, hs, hl, ex,reduceIte,reduceCtorEq,Nat.reduceEqDiff,Nat.reduceLT,Nat.reduceLeDiff,Nat.reduceAdd,Nat.reduceSub,Nat.reduceMul,Int.reduceAdd,Int.reduceSub,Int.reduceMul,Int.reduceNeg,Int.reduceLE,Int.reduceLT,Int.reduceEq,Int.reduceToNat])
        have h9 := ih (q + 1) (set (del (set (set h (3 * q) (Blk.rows 1 (List.replicate (b.length + 1) (V.int IntKind.i64 0)))) (3 * q + 1) (Blk.rows 1 [V.hs (3 * q) 1 0 (b.length + 1)])) (3 * q - 1)) (3 * q + 2) (.rows 1 (hd3 (b.length + 1) (q + 1)))) (by omega) (fun _ => by rw [show 3 * (q + 1) - 1 = 3 * q + 2 by omega]; exact get_set_same) (fun i hi => by
          rw [get_set_other (by omega), get_del_other1 _ (by omega), get_set_other (by omega)]
          by_cases e : i = q
          · subst e; rw [get_set_same, rowV_zero (i := i)]
          · rw [get_set_other (by omega)]; exact ht i (by omega))
        rw [if_neg (by omega), show 3 * (q + 1) - 1 = 3 * q + 2 by omega] at h9
        exact h9
    | zero =>
      intro q h hq hh ht
      apply hL1
      simp only [L44_1, l44_1, ex,reduceIte,reduceCtorEq,Nat.reduceEqDiff,Nat.reduceLT,Nat.reduceLeDiff,Nat.reduceAdd,Nat.reduceSub,Nat.reduceMul,Int.reduceAdd,Int.reduceSub,Int.reduceMul,Int.reduceNeg,Int.reduceLE,Int.reduceLT,Int.reduceEq,Int.reduceToNat]
      have h1 : decide ((q : Int) < (a.length : Int) + 1) = false := by simp; omega
      have c0 : (q = 0) = False := by simp; omega
      (try simp only [h1, c0, ex,reduceIte,reduceCtorEq,Nat.reduceEqDiff,Nat.reduceLT,Nat.reduceLeDiff,Nat.reduceAdd,Nat.reduceSub,Nat.reduceMul,Int.reduceAdd,Int.reduceSub,Int.reduceMul,Int.reduceNeg,Int.reduceLE,Int.reduceLT,Int.reduceEq,Int.reduceToNat]) <;> repeat ((with_reducible refine Req.intro ?_ ?_); (first | omega | (simp <;> omega)); try simp only [h1, c0, ex,reduceIte,reduceCtorEq,Nat.reduceEqDiff,Nat.reduceLT,Nat.reduceLeDiff,Nat.reduceAdd,Nat.reduceSub,Nat.reduceMul,Int.reduceAdd,Int.reduceSub,Int.reduceMul,Int.reduceNeg,Int.reduceLE,Int.reduceLT,Int.reduceEq,Int.reduceToNat])
      have hq' : q = a.length + 1 := by omega
      subst hq'
      have hh := hh (by omega)
      rw [show 3 * (a.length + 1) - 1 = 3 * a.length + 2 by omega] at hh ⊢
      refine loopI fun L3 hL3 => ?_
      (try simp only [ex,reduceIte,reduceCtorEq,Nat.reduceEqDiff,Nat.reduceLT,Nat.reduceLeDiff,Nat.reduceAdd,Nat.reduceSub,Nat.reduceMul,Int.reduceAdd,Int.reduceSub,Int.reduceMul,Int.reduceNeg,Int.reduceLE,Int.reduceLT,Int.reduceEq,Int.reduceToNat]) <;> repeat ((with_reducible refine Req.intro ?_ ?_); (first | omega | (simp <;> omega)); try simp only [ex,reduceIte,reduceCtorEq,Nat.reduceEqDiff,Nat.reduceLT,Nat.reduceLeDiff,Nat.reduceAdd,Nat.reduceSub,Nat.reduceMul,Int.reduceAdd,Int.reduceSub,Int.reduceMul,Int.reduceNeg,Int.reduceLE,Int.reduceLT,Int.reduceEq,Int.reduceToNat])
      have key3 : ∀ (m : Nat) (f : Nat → Nat → Nat) (h : Heap), m ≤ a.length → Right a b m b.length f → get h (3 * a.length + 2) = some (.rows 1 (hd3 (b.length + 1) (a.length + 1))) → Tb3 h (a.length + 1) (b.length + 1) f → L3 (L44_3 (.sl o 1 (a.map .str)) (.sl o' 1 (b.map .str)) (.hs (3 * a.length + 2) 1 0 (a.length + 1)) (.int .i64 ((m : Int) - 1)) h (3 * (a.length + 1))) := by
        intro m
        induction m with
        | zero =>
          intro f h hm hf hh ht
          apply hL3
          simp only [L44_3, l44_3, ex,reduceIte,reduceCtorEq,Nat.reduceEqDiff,Nat.reduceLT,Nat.reduceLeDiff,Nat.reduceAdd,Nat.reduceSub,Nat.reduceMul,Int.reduceAdd,Int.reduceSub,Int.reduceMul,Int.reduceNeg,Int.reduceLE,Int.reduceLT,Int.reduceEq,Int.reduceToNat]
          have h1 : decide (((0 : Nat) : Int) - 1 ≥ 0) = false := by decide
          (try simp only [h1, ex,reduceIte,reduceCtorEq,Nat.reduceEqDiff,Nat.reduceLT,Nat.reduceLeDiff,Nat.reduceAdd,Nat.reduceSub,Nat.reduceMul,Int.reduceAdd,Int.reduceSub,Int.reduceMul,Int.reduceNeg,Int.reduceLE,Int.reduceLT,Int.reduceEq,Int.reduceToNat]) <;> repeat ((with_reducible refine Req.intro ?_ ?_); (first | omega | (simp <;> omega)); try simp only [h1, ex,reduceIte,reduceCtorEq,Nat.reduceEqDiff,Nat.reduceLT,Nat.reduceLeDiff,Nat.reduceAdd,Nat.reduceSub,Nat.reduceMul,Int.reduceAdd,Int.reduceSub,Int.reduceMul,Int.reduceNeg,Int.reduceLE,Int.reduceLT,Int.reduceEq,Int.reduceToNat])
          exact ⟨f, rfl, by omega, ht, fun i j hi hj => hf i j hi hj (by omega)⟩
        | succ m ih =>
          intro f h hm hf hh ht
          apply hL3
          simp only [L44_3, l44_3, ex,reduceIte,reduceCtorEq,Nat.reduceEqDiff,Nat.reduceLT,Nat.reduceLeDiff,Nat.reduceAdd,Nat.reduceSub,Nat.reduceMul,Int.reduceAdd,Int.reduceSub,Int.reduceMul,Int.reduceNeg,Int.reduceLE,Int.reduceLT,Int.reduceEq,Int.reduceToNat]
          have t3 : (((m + 1 : Nat) : Int) - 1) = (m : Int) := by omega
          have h1 : decide ((m : Int) ≥ 0) = true := by simp
          (try simp only [t3, h1, ex,reduceIte,reduceCtorEq,Nat.reduceEqDiff,Nat.reduceLT,Nat.reduceLeDiff,Nat.reduceAdd,Nat.reduceSub,Nat.reduceMul,Int.reduceAdd,Int.reduceSub,Int.reduceMul,Int.reduceNeg,Int.reduceLE,Int.reduceLT,Int.reduceEq,Int.reduceToNat]) <;> repeat ((with_reducible refine Req.intro ?_ ?_); (first | omega | (simp <;> omega)); try simp only [t3, h1, ex,reduceIte,reduceCtorEq,Nat.reduceEqDiff,Nat.reduceLT,Nat.reduceLeDiff,Nat.reduceAdd,Nat.reduceSub,Nat.reduceMul,Int.reduceAdd,Int.reduceSub,Int.reduceMul,Int.reduceNeg,Int.reduceLE,Int.reduceLT,Int.reduceEq,Int.reduceToNat])
          refine loopI fun L2 hL2 => ?_
          (try simp only [ex,reduceIte,reduceCtorEq,Nat.reduceEqDiff,Nat.reduceLT,Nat.reduceLeDiff,Nat.reduceAdd,Nat.reduceSub,Nat.reduceMul,Int.reduceAdd,Int.reduceSub,Int.reduceMul,Int.reduceNeg,Int.reduceLE,Int.reduceLT,Int.reduceEq,Int.reduceToNat]) <;> repeat ((with_reducible refine Req.intro ?_ ?_); (first | omega | (simp <;> omega)); try simp only [ex,reduceIte,reduceCtorEq,Nat.reduceEqDiff,Nat.reduceLT,Nat.reduceLeDiff,Nat.reduceAdd,Nat.reduceSub,Nat.reduceMul,Int.reduceAdd,Int.reduceSub,Int.reduceMul,Int.reduceNeg,Int.reduceLE,Int.reduceLT,Int.reduceEq,Int.reduceToNat])
          have key2 : ∀ (q : Nat) (f : Nat → Nat → Nat) (h : Heap), q ≤ b.length → Right a b (m + 1) q f → get h (3 * a.length + 2) = some (.rows 1 (hd3 (b.length + 1) (a.length + 1))) → Tb3 h (a.length + 1) (b.length + 1) f → L2 (L44_2 (.sl o 1 (a.map .str)) (.sl o' 1 (b.map .str)) (.hs (3 * a.length + 2) 1 0 (a.length + 1)) (.int .i64 (m : Int)) (.int .i64 ((q : Int) - 1)) h (3 * (a.length + 1))) := by
            intro q
            induction q with
            | zero =>
              intro f h hq hf hh ht
              apply hL2
              simp only [L44_2, l44_2, ex,reduceIte,reduceCtorEq,Nat.reduceEqDiff,Nat.reduceLT,Nat.reduceLeDiff,Nat.reduceAdd,Nat.reduceSub,Nat.reduceMul,Int.reduceAdd,Int.reduceSub,Int.reduceMul,Int.reduceNeg,Int.reduceLE,Int.reduceLT,Int.reduceEq,Int.reduceToNat]
              have h1 : decide (((0 : Nat) : Int) - 1 ≥ 0) = false := by decide
              (try simp only [h1, ex,reduceIte,reduceCtorEq,Nat.reduceEqDiff,Nat.reduceLT,Nat.reduceLeDiff,Nat.reduceAdd,Nat.reduceSub,Nat.reduceMul,Int.reduceAdd,Int.reduceSub,Int.reduceMul,Int.reduceNeg,Int.reduceLE,Int.reduceLT,Int.reduceEq,Int.reduceToNat]) <;> repeat ((with_reducible refine Req.intro ?_ ?_); (first | omega | (simp <;> omega)); try simp only [h1, ex,reduceIte,reduceCtorEq,Nat.reduceEqDiff,Nat.reduceLT,Nat.reduceLeDiff,Nat.reduceAdd,Nat.reduceSub,Nat.reduceMul,Int.reduceAdd,Int.reduceSub,Int.reduceMul,Int.reduceNeg,Int.reduceLE,Int.reduceLT,Int.reduceEq,Int.reduceToNat])
              exact ih f h (by omega) (Right.row hf) hh ht
            | succ q ih2 =>
              intro f h hq hf hh ht
              apply hL2
              simp only [L44_2, l44_2, ex,reduceIte,reduceCtorEq,Nat.reduceEqDiff,Nat.reduceLT,Nat.reduceLeDiff,Nat.reduceAdd,Nat.reduceSub,Nat.reduceMul,Int.reduceAdd,Int.reduceSub,Int.reduceMul,Int.reduceNeg,Int.reduceLE,Int.reduceLT,Int.reduceEq,Int.reduceToNat]
              have t4 : (((q + 1 : Nat) : Int) - 1) = (q : Int) := by omega
              have h1 : decide ((q : Int) ≥ 0) = true := by simp
              have g1 : a[m]? = some (a[m]'(by omega)) := List.getElem?_eq_getElem _
              have g2 : b[q]? = some (b[q]'(by omega)) := List.getElem?_eq_getElem _
              generalize hx : a[m]'(by omega) = x at g1
              generalize hy : b[q]'(by omega) = y at g2
              have k1 := hd3_get (w := b.length + 1) (m := a.length + 1) (i := m) (by omega)
              have k2 := hd3_get (w := b.length + 1) (m := a.length + 1) (i := m + 1) (by omega)
              have k3 := ht m (by omega)
              have k4 := ht (m + 1) (by omega)
              have k6 := rowV_get (k := .i64) (w := b.length + 1) (f := f) (i := m) (j := q + 1) (by omega)
              have k5 := rowV_get (k := .i64) (w := b.length + 1) (f := f) (i := m) (j := q) (by omega)
              have k7 := rowV_get (k := .i64) (w := b.length + 1) (f := f) (i := m + 1) (j := q) (by omega)
              have k8 := rowV_get (k := .i64) (w := b.length + 1) (f := f) (i := m + 1) (j := q + 1) (by omega)
              have f1 := hf (m + 1) (q + 1) (by omega) (by omega) (by omega)
              have f2 := hf (m + 1) q (by omega) (by omega) (by omega)
              have f3 := hf m (q + 1) (by omega) (by omega) (by omega)
              have e1 := ent_le a b (m + 1) (q + 1)
              have hl := hd3_len (b.length + 1) (a.length + 1)
              have hset := fun v => ht.set (i := m) (j := q) (v := v)
              have hout : ∀ x, get (set h (3 * m) x) (3 * a.length + 2) = some (.rows 1 (hd3 (b.length + 1) (a.length + 1))) := fun x => by rw [get_set_other (by omega), hh]
              rcases Classical.em (x = y) with c | c
              · have g3 : decide (x = y) = true := by simpa using c
                subst c
                have h9 := ih2 _ _ (by omega) (Right.step hf) (hout _) (hset _)
                rw [ent_eq g1 g2] at h9
                (try simp only [t4, h1, g1, g2, g3, hh, k1, k2, k3, k4, k5, k8, f1, hl, ex,reduceIte,reduceCtorEq,Nat.reduceEqDiff,Nat.reduceLT,Nat.reduceLeDiff,Nat.reduceAdd,Nat.reduceSub,Nat.reduceMul,Int.reduceAdd,Int.reduceSub,Int.reduceMul,Int.reduceNeg,Int.reduceLE,Int.reduceLT,Int.reduceEq,Int.reduceToNat]) <;> repeat ((with_reducible refine Req.intro ?_ ?_); (first | omega | (simp <;> omega)); try simp only [t4, h1, g1, g2, g3, hh, k1, k2, k3, k4, k5, k8, f1, hl, ex,reduceIte,reduceCtorEq,Nat.reduceEqDiff,Nat.reduceLT,Nat.reduceLeDiff,Nat.reduceAdd,Nat.reduceSub,Nat.reduceMul,Int.reduceAdd,Int.reduceSub,Int.reduceMul,Int.reduceNeg,Int.reduceLE,Int.reduceLT,Int.reduceEq,Int.reduceToNat])
                exact h9
              · have g3 : decide (x = y) = false := by simpa using c
                have h9 := ih2 _ _ (by omega) (Right.step hf) (hout _) (hset _)
                rw [ent_ne g1 g2 c] at h9
                (try simp only [t4, h1, g1, g2, g3, hh, k1, k2, k3, k4, k5, k6, k7, f2, f3, ifmax, hl, ex,reduceIte,reduceCtorEq,Nat.reduceEqDiff,Nat.reduceLT,Nat.reduceLeDiff,Nat.reduceAdd,Nat.reduceSub,Nat.reduceMul,Int.reduceAdd,Int.reduceSub,Int.reduceMul,Int.reduceNeg,Int.reduceLE,Int.reduceLT,Int.reduceEq,Int.reduceToNat]) <;> repeat ((with_reducible refine Req.intro ?_ ?_); (first | omega | (simp <;> omega)); try simp only [t4, h1, g1, g2, g3, hh, k1, k2, k3, k4, k5, k6, k7, f2, f3, ifmax, hl, ex,reduceIte,reduceCtorEq,Nat.reduceEqDiff,Nat.reduceLT,Nat.reduceLeDiff,Nat.reduceAdd,Nat.reduceSub,Nat.reduceMul,Int.reduceAdd,Int.reduceSub,Int.reduceMul,Int.reduceNeg,Int.reduceLE,Int.reduceLT,Int.reduceEq,Int.reduceToNat])
                exact h9
          exact key2 b.length f h (Nat.le_refl _) hf hh ht
      exact key3 a.length (fun _ _ => 0) h (Nat.le_refl _) (fun i j hi hj hh => (ent_end a b i j (by omega)).symm) hh ht
  exact key1 (a.length + 1) 0 [] (Nat.zero_add _) (by simp) (fun i hi => by omega)
end Go.Proofs.Ytmmcepbcjlopdaa.E.Hs

/- graftageref08.add: walked. Conditions: none. -/
namespace Go.Proofs.Ytmmcepbcjlopdaa.E.Hs
set_option linter.unusedVariables false
set_option linter.unusedSimpArgs false
set_option maxHeartbeats 20000000
set_option maxRecDepth 100000

/-- Edits that may be written: none yet, or a block. -/
def hsE (b : Nat) (l : List Ed) : V := if l = [] then .hs 0 0 0 0 else .hs b 4 0 l.length
theorem hsE_nil (b : Nat) : hsE b [] = .hs 0 0 0 0 := rfl
theorem hsE_clr (b : Nat) (l : List Ed) : clr (hsE b l) = hsE b l := by unfold hsE; split <;> rfl
theorem hsE_snoc (b : Nat) (l : List Ed) (e : Ed) : hsE b (l ++ [e]) = .hs b 4 0 (l.length + 1) := by unfold hsE; rw [if_neg (by simp), List.length_append]; rfl
theorem addM_spec (b n : Nat) (pre : List Ed) (x e : Ed) (h : Heap) (hb : get h b = some (.rows 4 ((pre ++ [x]).map edV))) (h1 : x.f + x.d = e.f) (h2 : x.t + x.i = e.t) (hl : pre.length ≤ 1000000) (h3 : e.f ≤ 1000000) (h4 : e.t ≤ 1000000) (h5 : e.d ≤ 1000000) (h6 : e.i ≤ 1000000) :
    Run tab 45 0 [hsE b (pre ++ [x]), edV e] h n (fun r h' n' => ∃ b', n ≤ b' ∧ b' < n' ∧ r = hsE b' (pre ++ [(⟨x.f, x.d + e.d, x.t, x.i + e.i⟩ : Ed)]) ∧ get h' b' = some (.rows 4 ((pre ++ [(⟨x.f, x.d + e.d, x.t, x.i + e.i⟩ : Ed)]).map edV)) ∧ ∀ k, k < n → k ≠ b → get h' k = get h k) := by
  rw [hsE_snoc]
  refine enter (F := f45) rfl rfl ?_
  simp only [f45, ex,reduceIte,reduceCtorEq,Nat.reduceEqDiff,Nat.reduceLT,Nat.reduceLeDiff,Nat.reduceAdd,Nat.reduceSub,Nat.reduceMul,Int.reduceAdd,Int.reduceSub,Int.reduceMul,Int.reduceNeg,Int.reduceLE,Int.reduceLT,Int.reduceEq,Int.reduceToNat]
  have d1 : decide ((pre.length : Int) + 1 > 0) = true := by simp <;> omega
  have t1 : ((pre.length : Int) + 1 - 1).toNat = pre.length := by omega
  have t2 : (((pre.length + 1 : Nat) : Int) - 1).toNat = pre.length := by omega
  have t3 : (((pre.length + 1 : Nat) : Int) > 0) = True := by simp <;> omega
  have gE : ((pre ++ [x]).map edV)[pre.length]? = some (edV x) := by simp
  have gE2 : (pre ++ [x])[pre.length]? = some x := by simp
  have e1 : decide ((x.f : Int) + (x.d : Int) = (e.f : Int)) = true := by simp; omega
  have e2 : decide ((x.t : Int) + (x.i : Int) = (e.t : Int)) = true := by simp; omega
  have hk : ((pre ++ [x]).map edV).take pre.length = pre.map edV := by simp
  have hk2 : (pre ++ [x]).take pre.length = pre := by simp
  (try simp only [d1, t1, t2, t3, hb, gE, gE2, e1, e2, edV, appB_put, apB_rows, hk, hk2, ex,reduceIte,reduceCtorEq,Nat.reduceEqDiff,Nat.reduceLT,Nat.reduceLeDiff,Nat.reduceAdd,Nat.reduceSub,Nat.reduceMul,Int.reduceAdd,Int.reduceSub,Int.reduceMul,Int.reduceNeg,Int.reduceLE,Int.reduceLT,Int.reduceEq,Int.reduceToNat]) <;> repeat ((with_reducible refine Req.intro ?_ ?_); (first | omega | (simp <;> omega)); try simp only [d1, t1, t2, t3, hb, gE, gE2, e1, e2, edV, appB_put, apB_rows, hk, hk2, ex,reduceIte,reduceCtorEq,Nat.reduceEqDiff,Nat.reduceLT,Nat.reduceLeDiff,Nat.reduceAdd,Nat.reduceSub,Nat.reduceMul,Int.reduceAdd,Int.reduceSub,Int.reduceMul,Int.reduceNeg,Int.reduceLE,Int.reduceLT,Int.reduceEq,Int.reduceToNat])
  refine ⟨n + 2, by omega, by omega, by rw [hsE_snoc], ?_, fun k hk hkb => ?_⟩
  · rw [get_set_same]; simp [edV]
  · rw [get_set_other (by omega), get_del_other1 _ hkb]
theorem addN_spec (b n : Nat) (out : List Ed) (e : Ed) (h : Heap) (hb : out ≠ [] → get h b = some (.rows 4 (out.map edV))) (hn : ∀ x, out.getLast? = some x → x.f + x.d ≠ e.f ∧ x.f ≤ 1000000 ∧ x.d ≤ 1000000) (hl : out.length ≤ 1000000) (h3 : e.f ≤ 1000000) (h4 : e.t ≤ 1000000) (h5 : e.d ≤ 1000000) (h6 : e.i ≤ 1000000) :
    Run tab 45 0 [hsE b out, edV e] h n (fun r h' n' => ∃ b', n ≤ b' ∧ b' < n' ∧ r = hsE b' (out ++ [e]) ∧ get h' b' = some (.rows 4 ((out ++ [e]).map edV)) ∧ ∀ k, k < n → k ≠ b → get h' k = get h k) := by
  refine enter (F := f45) rfl rfl ?_
  rcases Classical.em (out = []) with c | c
  · subst c
    simp only [f45, hsE_nil, ex,reduceIte,reduceCtorEq,Nat.reduceEqDiff,Nat.reduceLT,Nat.reduceLeDiff,Nat.reduceAdd,Nat.reduceSub,Nat.reduceMul,Int.reduceAdd,Int.reduceSub,Int.reduceMul,Int.reduceNeg,Int.reduceLE,Int.reduceLT,Int.reduceEq,Int.reduceToNat]
    have d1 : decide (((0 : Nat) : Int) > 0) = false := by decide
    (try simp only [edV, appB_nil, d1, ex,reduceIte,reduceCtorEq,Nat.reduceEqDiff,Nat.reduceLT,Nat.reduceLeDiff,Nat.reduceAdd,Nat.reduceSub,Nat.reduceMul,Int.reduceAdd,Int.reduceSub,Int.reduceMul,Int.reduceNeg,Int.reduceLE,Int.reduceLT,Int.reduceEq,Int.reduceToNat]) <;> repeat ((with_reducible refine Req.intro ?_ ?_); (first | omega | (simp <;> omega)); try simp only [edV, appB_nil, d1, ex,reduceIte,reduceCtorEq,Nat.reduceEqDiff,Nat.reduceLT,Nat.reduceLeDiff,Nat.reduceAdd,Nat.reduceSub,Nat.reduceMul,Int.reduceAdd,Int.reduceSub,Int.reduceMul,Int.reduceNeg,Int.reduceLE,Int.reduceLT,Int.reduceEq,Int.reduceToNat])
    refine ⟨n + 1, by omega, by omega, by simp [hsE], ?_, fun k hk hkb => ?_⟩
    · rw [get_set_same]; simp [edV]
    · rw [get_set_other (by omega)]
  · have k1 : out.dropLast ++ [out.getLast c] = out := List.dropLast_concat_getLast c
    have hn := hn (out.getLast c) (List.getLast?_eq_some_getLast c)
    have hb := hb c
    generalize out.dropLast = pre at k1
    generalize out.getLast c = x at k1 hn
    subst k1
    simp only [f45, hsE_snoc, ex,reduceIte,reduceCtorEq,Nat.reduceEqDiff,Nat.reduceLT,Nat.reduceLeDiff,Nat.reduceAdd,Nat.reduceSub,Nat.reduceMul,Int.reduceAdd,Int.reduceSub,Int.reduceMul,Int.reduceNeg,Int.reduceLE,Int.reduceLT,Int.reduceEq,Int.reduceToNat]
    have d1 : decide (((pre.length + 1 : Nat) : Int) > 0) = true := by simp <;> omega
    have t1 : ((pre.length : Int) + 1 - 1).toNat = pre.length := by omega
    have t2 : (((pre.length + 1 : Nat) : Int) - 1).toNat = pre.length := by omega
    have gE2 : (pre ++ [x])[pre.length]? = some x := by simp
    have e1 : decide ((x.f : Int) + (x.d : Int) = (e.f : Int)) = false := by simp; omega
    have hll : (pre ++ [x]).length = pre.length + 1 := by simp
    have hl : pre.length + 1 ≤ 1000000 := by rw [← hll]; exact hl
    have hk2 : (pre ++ [x]).take (pre.length + 1) = pre ++ [x] := List.take_of_length_le (by simp)
    (try simp only [d1, t1, t2, hb, gE2, e1, edV, appB_put, apB_rows, hk2, hll, ex,reduceIte,reduceCtorEq,Nat.reduceEqDiff,Nat.reduceLT,Nat.reduceLeDiff,Nat.reduceAdd,Nat.reduceSub,Nat.reduceMul,Int.reduceAdd,Int.reduceSub,Int.reduceMul,Int.reduceNeg,Int.reduceLE,Int.reduceLT,Int.reduceEq,Int.reduceToNat]) <;> repeat ((with_reducible refine Req.intro ?_ ?_); (first | omega | (simp <;> omega)); try simp only [d1, t1, t2, hb, gE2, e1, edV, appB_put, apB_rows, hk2, hll, ex,reduceIte,reduceCtorEq,Nat.reduceEqDiff,Nat.reduceLT,Nat.reduceLeDiff,Nat.reduceAdd,Nat.reduceSub,Nat.reduceMul,Int.reduceAdd,Int.reduceSub,Int.reduceMul,Int.reduceNeg,Int.reduceLE,Int.reduceLT,Int.reduceEq,Int.reduceToNat])
    refine ⟨n + 1, by omega, by omega, by simp [hsE], ?_, fun k hk hkb => ?_⟩
    · rw [get_set_same]; simp [edV]
    · rw [get_set_other (by omega), get_del_other1 _ hkb]
end Go.Proofs.Ytmmcepbcjlopdaa.E.Hs

/- graftageref08.Least: walked. Conditions: none. -/
namespace Go.Proofs.Ytmmcepbcjlopdaa.E.Hs
set_option linter.unusedVariables false
set_option linter.unusedSimpArgs false
set_option maxHeartbeats 20000000
set_option maxRecDepth 100000

theorem all_edV' : ∀ l : List Ed, (l.map edV).all noH2 = true
  | [] => rfl
  | e :: l => by simp only [List.map_cons, List.all_cons, all_edV' l, Bool.and_true]; rfl
theorem frz_E {h : Heap} {b : Nat} {out : List Ed} (hb : get h b = some (.rows 4 (out.map edV))) : W (E.hf (.frz 4) [.hs b 4 0 out.length] h 0) (fun q => q.1 = .sl false 4 (out.map edV)) := by
  simp only [E.hf, hb]
  rw [if_neg (by decide), if_pos trivial, if_pos ⟨trivial, by simp, all_edV' out⟩]
  show V.sl false 4 _ = _
  rw [List.drop_zero, List.take_of_length_le (by simp), show (out.map edV).map clr2 = out.map edV by rw [List.map_map]; rfl]
theorem noLast {out pre : List Ed} {cur : Option Ed} {q p : Nat} (ho : out = pre ++ cur.toList) (hcur : ∀ e ∈ cur, e.f + e.d = q ∧ e.t + e.i = p) (hno : cur = none → ∀ x, pre.getLast? = some x → x.f + x.d < q) : ∀ z, out.getLast? = some z → z.f + z.d < q + 1 := by
  intro z hz
  cases cur with
  | none =>
    have : out = pre := by simpa using ho
    rw [this] at hz
    have := hno rfl z hz; omega
  | some e =>
    have : out = pre ++ [e] := by simpa using ho
    rw [this] at hz
    simp at hz
    subst hz
    have := hcur e rfl; omega
theorem rleast_spec (o o' : Bool) (a b : List S) (ha : a.length ≤ 4096) (hb : b.length ≤ 4096) :
    Run tab 42 0 [.sl o 1 (a.map .str), .sl o' 1 (b.map .str)] [] 0 (fun r _ _ => r = .sl false 4 ((leastEd a b).map edV)) := by
  have hle : leastEd a b = scr (greedy a b) 0 0 none := by unfold leastEd; rw [if_neg (by omega)]
  have hgl := greedy_len a b
  rw [hle]
  refine enter (F := f42) rfl rfl ?_
  simp only [f42, ex,reduceIte,reduceCtorEq,Nat.reduceEqDiff,Nat.reduceLT,Nat.reduceLeDiff,Nat.reduceAdd,Nat.reduceSub,Nat.reduceMul,Int.reduceAdd,Int.reduceSub,Int.reduceMul,Int.reduceNeg,Int.reduceLE,Int.reduceLT,Int.reduceEq,Int.reduceToNat]
  have z1 : decide ((a.length : Int) > 4096) = false := by simp; omega
  have z2 : decide ((b.length : Int) > 4096) = false := by simp; omega
  (try simp only [z1, z2, ex,reduceIte,reduceCtorEq,Nat.reduceEqDiff,Nat.reduceLT,Nat.reduceLeDiff,Nat.reduceAdd,Nat.reduceSub,Nat.reduceMul,Int.reduceAdd,Int.reduceSub,Int.reduceMul,Int.reduceNeg,Int.reduceLE,Int.reduceLT,Int.reduceEq,Int.reduceToNat]) <;> repeat ((with_reducible refine Req.intro ?_ ?_); (first | omega | (simp <;> omega)); try simp only [z1, z2, ex,reduceIte,reduceCtorEq,Nat.reduceEqDiff,Nat.reduceLT,Nat.reduceLeDiff,Nat.reduceAdd,Nat.reduceSub,Nat.reduceMul,Int.reduceAdd,Int.reduceSub,Int.reduceMul,Int.reduceNeg,Int.reduceLE,Int.reduceLT,Int.reduceEq,Int.reduceToNat])
  refine CallH.any (rtable_spec _ _ a b ha hb) ?_
  intro r h' n' hx
  have hx2 := hx.choose_spec
  generalize hx.choose = f at hx2
  have hr := hx2.1
  have hn := hx2.2.1
  have hO := hx2.2.2.1
  have hT := hx2.2.2.2.1
  have hf := hx2.2.2.2.2
  clear hx hx2
  have hnn : 0 + (n' - 0) = n' := by omega
  (try simp only [hr, hnn, ex,reduceIte,reduceCtorEq,Nat.reduceEqDiff,Nat.reduceLT,Nat.reduceLeDiff,Nat.reduceAdd,Nat.reduceSub,Nat.reduceMul,Int.reduceAdd,Int.reduceSub,Int.reduceMul,Int.reduceNeg,Int.reduceLE,Int.reduceLT,Int.reduceEq,Int.reduceToNat]) <;> repeat ((with_reducible refine Req.intro ?_ ?_); (first | omega | (simp <;> omega)); try simp only [hr, hnn, ex,reduceIte,reduceCtorEq,Nat.reduceEqDiff,Nat.reduceLT,Nat.reduceLeDiff,Nat.reduceAdd,Nat.reduceSub,Nat.reduceMul,Int.reduceAdd,Int.reduceSub,Int.reduceMul,Int.reduceNeg,Int.reduceLE,Int.reduceLT,Int.reduceEq,Int.reduceToNat])
  refine loopI fun L hL => ?_
  (try simp only [ex,reduceIte,reduceCtorEq,Nat.reduceEqDiff,Nat.reduceLT,Nat.reduceLeDiff,Nat.reduceAdd,Nat.reduceSub,Nat.reduceMul,Int.reduceAdd,Int.reduceSub,Int.reduceMul,Int.reduceNeg,Int.reduceLE,Int.reduceLT,Int.reduceEq,Int.reduceToNat]) <;> repeat ((with_reducible refine Req.intro ?_ ?_); (first | omega | (simp <;> omega)); try simp only [ex,reduceIte,reduceCtorEq,Nat.reduceEqDiff,Nat.reduceLT,Nat.reduceLeDiff,Nat.reduceAdd,Nat.reduceSub,Nat.reduceMul,Int.reduceAdd,Int.reduceSub,Int.reduceMul,Int.reduceNeg,Int.reduceLE,Int.reduceLT,Int.reduceEq,Int.reduceToNat])
  have key : ∀ (m q p : Nat) (bk n : Nat) (h : Heap) (out pre : List Ed) (cur : Option Ed), q + p + m = a.length + b.length → q ≤ a.length → p ≤ b.length → out = pre ++ cur.toList → pre ++ scr (greedy (a.drop q) (b.drop p)) q p cur = scr (greedy a b) 0 0 none → (out ≠ [] → get h bk = some (.rows 4 (out.map edV))) → n' ≤ bk → (out ≠ [] → bk < n) → n' ≤ n → out.length ≤ q + p → (∀ e ∈ cur, e.f + e.d = q ∧ e.t + e.i = p) → (cur = none → ∀ x, pre.getLast? = some x → x.f + x.d < q) → get h (3 * a.length + 2) = some (.rows 1 (hd3 (b.length + 1) (a.length + 1))) → Tb3 h (a.length + 1) (b.length + 1) f →
      L (L42_1 (.sl o 1 (a.map .str)) (.sl o' 1 (b.map .str)) (.hs (3 * a.length + 2) 1 0 (a.length + 1)) (hsE bk out) (.int .i64 q) (.int .i64 p) h n) := by
    intro m
    induction m using Nat.strongRecOn with
    | _ m ih =>
      intro q p bk n h out pre cur hm hq hp ho he hbk hb1 hb2 hnl hol hcur hno hO hT
      apply hL
      simp only [L42_1, l42_1, ex,reduceIte,reduceCtorEq,Nat.reduceEqDiff,Nat.reduceLT,Nat.reduceLeDiff,Nat.reduceAdd,Nat.reduceSub,Nat.reduceMul,Int.reduceAdd,Int.reduceSub,Int.reduceMul,Int.reduceNeg,Int.reduceLE,Int.reduceLT,Int.reduceEq,Int.reduceToNat]
      have hno2 := noLast ho hcur hno
      rcases Nat.eq_zero_or_pos m with m0 | m0
      · have h1 : decide ((q : Int) < (a.length : Int)) = false := by simp; omega
        have h2 : decide ((p : Int) < (b.length : Int)) = false := by simp; omega
        rw [greedy_end (by omega) (by omega), scr, ← ho] at he
        rw [← he]
        rcases Classical.em (out = []) with e | e
        · subst e
          (try simp only [h1, h2, hsE_nil, frB, ex,reduceIte,reduceCtorEq,Nat.reduceEqDiff,Nat.reduceLT,Nat.reduceLeDiff,Nat.reduceAdd,Nat.reduceSub,Nat.reduceMul,Int.reduceAdd,Int.reduceSub,Int.reduceMul,Int.reduceNeg,Int.reduceLE,Int.reduceLT,Int.reduceEq,Int.reduceToNat]) <;> repeat ((with_reducible refine Req.intro ?_ ?_); (first | omega | (simp <;> omega)); try simp only [h1, h2, hsE_nil, frB, ex,reduceIte,reduceCtorEq,Nat.reduceEqDiff,Nat.reduceLT,Nat.reduceLeDiff,Nat.reduceAdd,Nat.reduceSub,Nat.reduceMul,Int.reduceAdd,Int.reduceSub,Int.reduceMul,Int.reduceNeg,Int.reduceLE,Int.reduceLT,Int.reduceEq,Int.reduceToNat])
          rfl
        · have hbk := hbk e
          have e0 : hsE bk out = .hs bk 4 0 out.length := by unfold hsE; rw [if_neg e]
          (try simp only [h1, h2, e0, frB, ex,reduceIte,reduceCtorEq,Nat.reduceEqDiff,Nat.reduceLT,Nat.reduceLeDiff,Nat.reduceAdd,Nat.reduceSub,Nat.reduceMul,Int.reduceAdd,Int.reduceSub,Int.reduceMul,Int.reduceNeg,Int.reduceLE,Int.reduceLT,Int.reduceEq,Int.reduceToNat]) <;> repeat ((with_reducible refine Req.intro ?_ ?_); (first | omega | (simp <;> omega)); try simp only [h1, h2, e0, frB, ex,reduceIte,reduceCtorEq,Nat.reduceEqDiff,Nat.reduceLT,Nat.reduceLeDiff,Nat.reduceAdd,Nat.reduceSub,Nat.reduceMul,Int.reduceAdd,Int.reduceSub,Int.reduceMul,Int.reduceNeg,Int.reduceLE,Int.reduceLT,Int.reduceEq,Int.reduceToNat])
          exact frz_E hbk
      · have hl := hd3_len (b.length + 1) (a.length + 1)
        apply shareL
        · intro shareD
          apply shareL
          · intro shareI
            rcases Nat.lt_or_ge q a.length with c1 | c1
            · have h1 : decide ((q : Int) < (a.length : Int)) = true := by simp; omega
              rcases Nat.lt_or_ge p b.length with c2 | c2
              · have h2 : decide ((p : Int) < (b.length : Int)) = true := by simp; omega
                have h4 : decide ((p : Int) = (b.length : Int)) = false := by simp; omega
                have g1 : a[q]? = some (a[q]'(by omega)) := List.getElem?_eq_getElem _
                have g2 : b[p]? = some (b[p]'(by omega)) := List.getElem?_eq_getElem _
                generalize hx : a[q]'(by omega) = x at g1
                generalize hy : b[p]'(by omega) = y at g2
                rcases Classical.em (x = y) with e | e
                · subst e
                  have h3 : decide (x = x) = true := by simp
                  rw [greedy_K g1 g2, scr, ← List.append_assoc, ← ho] at he
                  have h9 := ih (m - 2) (by omega) (q + 1) (p + 1) bk n h out out none (by omega) (by omega) (by omega) (by simp) he hbk hb1 hb2 hnl (by omega) (by simp) (fun _ => hno2) hO hT
                  (try simp only [h1, h2, g1, g2, h3, ex,reduceIte,reduceCtorEq,Nat.reduceEqDiff,Nat.reduceLT,Nat.reduceLeDiff,Nat.reduceAdd,Nat.reduceSub,Nat.reduceMul,Int.reduceAdd,Int.reduceSub,Int.reduceMul,Int.reduceNeg,Int.reduceLE,Int.reduceLT,Int.reduceEq,Int.reduceToNat]) <;> repeat ((with_reducible refine Req.intro ?_ ?_); (first | omega | (simp <;> omega)); try simp only [h1, h2, g1, g2, h3, ex,reduceIte,reduceCtorEq,Nat.reduceEqDiff,Nat.reduceLT,Nat.reduceLeDiff,Nat.reduceAdd,Nat.reduceSub,Nat.reduceMul,Int.reduceAdd,Int.reduceSub,Int.reduceMul,Int.reduceNeg,Int.reduceLE,Int.reduceLT,Int.reduceEq,Int.reduceToNat])
                  exact h9
                · have h3 : decide (x = y) = false := by simpa using e
                  have k1 := hd3_get (w := b.length + 1) (m := a.length + 1) (i := q) (by omega)
                  have k2 := hd3_get (w := b.length + 1) (m := a.length + 1) (i := q + 1) (by omega)
                  have k3 := hT q (by omega)
                  have k4 := hT (q + 1) (by omega)
                  have k5 := rowV_get (k := .i64) (w := b.length + 1) (f := f) (i := q + 1) (j := p) (by omega)
                  have k6 := rowV_get (k := .i64) (w := b.length + 1) (f := f) (i := q) (j := p + 1) (by omega)
                  have f1 := hf (q + 1) p (by omega) (by omega)
                  have f2 := hf q (p + 1) (by omega) (by omega)
                  rcases Classical.em (ent a b q (p + 1) ≤ ent a b (q + 1) p) with e2 | e2
                  · have h5 : decide (((ent a b (q + 1) p : Nat) : Int) ≥ ((ent a b q (p + 1) : Nat) : Int)) = true := by simp; omega
                    have gd := greedy_D g1 g2 e e2
                    (try simp only [h1, h2, g1, g2, h3, h4, k1, k2, k3, k4, k5, k6, f1, f2, h5, hO, hl, ex,reduceIte,reduceCtorEq,Nat.reduceEqDiff,Nat.reduceLT,Nat.reduceLeDiff,Nat.reduceAdd,Nat.reduceSub,Nat.reduceMul,Int.reduceAdd,Int.reduceSub,Int.reduceMul,Int.reduceNeg,Int.reduceLE,Int.reduceLT,Int.reduceEq,Int.reduceToNat]) <;> repeat ((with_reducible refine Req.intro ?_ ?_); (first | omega | (simp <;> omega)); try simp only [h1, h2, g1, g2, h3, h4, k1, k2, k3, k4, k5, k6, f1, f2, h5, hO, hl, ex,reduceIte,reduceCtorEq,Nat.reduceEqDiff,Nat.reduceLT,Nat.reduceLeDiff,Nat.reduceAdd,Nat.reduceSub,Nat.reduceMul,Int.reduceAdd,Int.reduceSub,Int.reduceMul,Int.reduceNeg,Int.reduceLE,Int.reduceLT,Int.reduceEq,Int.reduceToNat])
                    exact (shareD.out : _ → _ → _) gd c1
                  · have h5 : decide (((ent a b (q + 1) p : Nat) : Int) ≥ ((ent a b q (p + 1) : Nat) : Int)) = false := by simp; omega
                    have gd := greedy_I g1 g2 e e2
                    (try simp only [h1, h2, g1, g2, h3, h4, k1, k2, k3, k4, k5, k6, f1, f2, h5, hO, hl, ex,reduceIte,reduceCtorEq,Nat.reduceEqDiff,Nat.reduceLT,Nat.reduceLeDiff,Nat.reduceAdd,Nat.reduceSub,Nat.reduceMul,Int.reduceAdd,Int.reduceSub,Int.reduceMul,Int.reduceNeg,Int.reduceLE,Int.reduceLT,Int.reduceEq,Int.reduceToNat]) <;> repeat ((with_reducible refine Req.intro ?_ ?_); (first | omega | (simp <;> omega)); try simp only [h1, h2, g1, g2, h3, h4, k1, k2, k3, k4, k5, k6, f1, f2, h5, hO, hl, ex,reduceIte,reduceCtorEq,Nat.reduceEqDiff,Nat.reduceLT,Nat.reduceLeDiff,Nat.reduceAdd,Nat.reduceSub,Nat.reduceMul,Int.reduceAdd,Int.reduceSub,Int.reduceMul,Int.reduceNeg,Int.reduceLE,Int.reduceLT,Int.reduceEq,Int.reduceToNat])
                    exact (shareI.out : _ → _ → _) gd c2
              · have h2 : decide ((p : Int) < (b.length : Int)) = false := by simp; omega
                have h4 : decide ((p : Int) = (b.length : Int)) = true := by simp; omega
                have gd := greedy_D0 (b := b) c1 c2
                (try simp only [h1, h2, h4, ex,reduceIte,reduceCtorEq,Nat.reduceEqDiff,Nat.reduceLT,Nat.reduceLeDiff,Nat.reduceAdd,Nat.reduceSub,Nat.reduceMul,Int.reduceAdd,Int.reduceSub,Int.reduceMul,Int.reduceNeg,Int.reduceLE,Int.reduceLT,Int.reduceEq,Int.reduceToNat]) <;> repeat ((with_reducible refine Req.intro ?_ ?_); (first | omega | (simp <;> omega)); try simp only [h1, h2, h4, ex,reduceIte,reduceCtorEq,Nat.reduceEqDiff,Nat.reduceLT,Nat.reduceLeDiff,Nat.reduceAdd,Nat.reduceSub,Nat.reduceMul,Int.reduceAdd,Int.reduceSub,Int.reduceMul,Int.reduceNeg,Int.reduceLE,Int.reduceLT,Int.reduceEq,Int.reduceToNat])
                exact (shareD.out : _ → _ → _) gd c1
            · have h1 : decide ((q : Int) < (a.length : Int)) = false := by simp; omega
              have h2 : decide ((p : Int) < (b.length : Int)) = true := by simp; omega
              have h4 : decide ((p : Int) = (b.length : Int)) = false := by simp; omega
              have c2 : p < b.length := by omega
              have gd := greedy_I0 (j := p) c1 c2
              (try simp only [h1, h2, h4, ex,reduceIte,reduceCtorEq,Nat.reduceEqDiff,Nat.reduceLT,Nat.reduceLeDiff,Nat.reduceAdd,Nat.reduceSub,Nat.reduceMul,Int.reduceAdd,Int.reduceSub,Int.reduceMul,Int.reduceNeg,Int.reduceLE,Int.reduceLT,Int.reduceEq,Int.reduceToNat]) <;> repeat ((with_reducible refine Req.intro ?_ ?_); (first | omega | (simp <;> omega)); try simp only [h1, h2, h4, ex,reduceIte,reduceCtorEq,Nat.reduceEqDiff,Nat.reduceLT,Nat.reduceLeDiff,Nat.reduceAdd,Nat.reduceSub,Nat.reduceMul,Int.reduceAdd,Int.reduceSub,Int.reduceMul,Int.reduceNeg,Int.reduceLE,Int.reduceLT,Int.reduceEq,Int.reduceToNat])
              exact (shareI.out : _ → _ → _) gd c2
          · intro gd c2
            rw [gd] at he
            simp only [hsE_clr]
            cases cur with
            | none =>
              have ho1 : out = pre := by simpa using ho
              have hno1 := hno rfl
              rw [← ho1] at he hno1
              have hbd : ∀ x, out.getLast? = some x → x.f + x.d ≠ ((⟨q, 0, p, 1⟩ : Ed)).f ∧ x.f ≤ 1000000 ∧ x.d ≤ 1000000 := fun x hx => by
                have := hno1 x hx
                simp only
                omega
              refine CallH.any (addN_spec bk n out ⟨q, 0, p, 1⟩ h hbk hbd (by omega) (by simp only; omega) (by simp only; omega) (by simp only; omega) (by simp only; omega)) ?_
              intro r3 h3 n3 hx
              have hx1 := hx.choose_spec
              generalize hx.choose = b3 at hx1
              have y1 := hx1.1
              have y2 := hx1.2.1
              have y3 := hx1.2.2.1
              have y4 := hx1.2.2.2.1
              have y5 := hx1.2.2.2.2
              clear hx hx1
              have hnn3 : n + (n3 - n) = n3 := by omega
              have h9 := ih (m - 1) (by omega) q (p + 1) b3 n3 h3 (out ++ [⟨q, 0, p, 1⟩]) out (some ⟨q, 0, p, 1⟩) (by omega) (by omega) (by omega) rfl he (fun _ => y4) (by omega) (fun _ => y2) (by omega) (by simp; omega) (by simp) (by simp) (by rw [y5 _ (by omega) (by omega)]; exact hO) (fun i hi => by rw [y5 _ (by omega) (by omega)]; exact hT i hi)
              (try simp only [y3, hnn3, hsE_clr, ex,reduceIte,reduceCtorEq,Nat.reduceEqDiff,Nat.reduceLT,Nat.reduceLeDiff,Nat.reduceAdd,Nat.reduceSub,Nat.reduceMul,Int.reduceAdd,Int.reduceSub,Int.reduceMul,Int.reduceNeg,Int.reduceLE,Int.reduceLT,Int.reduceEq,Int.reduceToNat]) <;> repeat ((with_reducible refine Req.intro ?_ ?_); (first | omega | (simp <;> omega)); try simp only [y3, hnn3, hsE_clr, ex,reduceIte,reduceCtorEq,Nat.reduceEqDiff,Nat.reduceLT,Nat.reduceLeDiff,Nat.reduceAdd,Nat.reduceSub,Nat.reduceMul,Int.reduceAdd,Int.reduceSub,Int.reduceMul,Int.reduceNeg,Int.reduceLE,Int.reduceLT,Int.reduceEq,Int.reduceToNat])
              exact h9
            | some x =>
              have ho1 : out = pre ++ [x] := by simpa using ho
              have hc := hcur x rfl
              have hbk := hbk (by rw [ho1]; simp)
              have hb2 := hb2 (by rw [ho1]; simp)
              rw [ho1] at hbk hol ⊢
              have hol : pre.length + 1 ≤ q + p := by simpa using hol
              refine CallH.any (addM_spec bk n pre x ⟨q, 0, p, 1⟩ h hbk hc.1 hc.2 (by omega) (by simp only; omega) (by simp only; omega) (by simp only; omega) (by simp only; omega)) ?_
              intro r3 h3 n3 hx
              have hx1 := hx.choose_spec
              generalize hx.choose = b3 at hx1
              have y1 := hx1.1
              have y2 := hx1.2.1
              have y3 : r3 = hsE b3 (pre ++ [(⟨x.f, x.d, x.t, x.i + 1⟩ : Ed)]) := hx1.2.2.1
              have y4 : get h3 b3 = some (.rows 4 ((pre ++ [(⟨x.f, x.d, x.t, x.i + 1⟩ : Ed)]).map edV)) := hx1.2.2.2.1
              have y5 := hx1.2.2.2.2
              clear hx hx1
              have hnn3 : n + (n3 - n) = n3 := by omega
              have h9 := ih (m - 1) (by omega) q (p + 1) b3 n3 h3 (pre ++ [⟨x.f, x.d, x.t, x.i + 1⟩]) pre (some ⟨x.f, x.d, x.t, x.i + 1⟩) (by omega) (by omega) (by omega) rfl he (fun _ => y4) (by omega) (fun _ => y2) (by omega) (by simp; omega) (by simp; omega) (by simp) (by rw [y5 _ (by omega) (by omega)]; exact hO) (fun i hi => by rw [y5 _ (by omega) (by omega)]; exact hT i hi)
              (try simp only [y3, hnn3, hsE_clr, ex,reduceIte,reduceCtorEq,Nat.reduceEqDiff,Nat.reduceLT,Nat.reduceLeDiff,Nat.reduceAdd,Nat.reduceSub,Nat.reduceMul,Int.reduceAdd,Int.reduceSub,Int.reduceMul,Int.reduceNeg,Int.reduceLE,Int.reduceLT,Int.reduceEq,Int.reduceToNat]) <;> repeat ((with_reducible refine Req.intro ?_ ?_); (first | omega | (simp <;> omega)); try simp only [y3, hnn3, hsE_clr, ex,reduceIte,reduceCtorEq,Nat.reduceEqDiff,Nat.reduceLT,Nat.reduceLeDiff,Nat.reduceAdd,Nat.reduceSub,Nat.reduceMul,Int.reduceAdd,Int.reduceSub,Int.reduceMul,Int.reduceNeg,Int.reduceLE,Int.reduceLT,Int.reduceEq,Int.reduceToNat])
              exact h9
        · intro gd c1
          rw [gd] at he
          simp only [hsE_clr]
          cases cur with
          | none =>
            have ho1 : out = pre := by simpa using ho
            have hno1 := hno rfl
            rw [← ho1] at he hno1
            have hbd : ∀ x, out.getLast? = some x → x.f + x.d ≠ ((⟨q, 1, p, 0⟩ : Ed)).f ∧ x.f ≤ 1000000 ∧ x.d ≤ 1000000 := fun x hx => by
              have := hno1 x hx
              simp only
              omega
            refine CallH.any (addN_spec bk n out ⟨q, 1, p, 0⟩ h hbk hbd (by omega) (by simp only; omega) (by simp only; omega) (by simp only; omega) (by simp only; omega)) ?_
            intro r3 h3 n3 hx
            have hx1 := hx.choose_spec
            generalize hx.choose = b3 at hx1
            have y1 := hx1.1
            have y2 := hx1.2.1
            have y3 := hx1.2.2.1
            have y4 := hx1.2.2.2.1
            have y5 := hx1.2.2.2.2
            clear hx hx1
            have hnn3 : n + (n3 - n) = n3 := by omega
            have h9 := ih (m - 1) (by omega) (q + 1) p b3 n3 h3 (out ++ [⟨q, 1, p, 0⟩]) out (some ⟨q, 1, p, 0⟩) (by omega) (by omega) (by omega) rfl he (fun _ => y4) (by omega) (fun _ => y2) (by omega) (by simp; omega) (by simp) (by simp) (by rw [y5 _ (by omega) (by omega)]; exact hO) (fun i hi => by rw [y5 _ (by omega) (by omega)]; exact hT i hi)
            (try simp only [y3, hnn3, hsE_clr, ex,reduceIte,reduceCtorEq,Nat.reduceEqDiff,Nat.reduceLT,Nat.reduceLeDiff,Nat.reduceAdd,Nat.reduceSub,Nat.reduceMul,Int.reduceAdd,Int.reduceSub,Int.reduceMul,Int.reduceNeg,Int.reduceLE,Int.reduceLT,Int.reduceEq,Int.reduceToNat]) <;> repeat ((with_reducible refine Req.intro ?_ ?_); (first | omega | (simp <;> omega)); try simp only [y3, hnn3, hsE_clr, ex,reduceIte,reduceCtorEq,Nat.reduceEqDiff,Nat.reduceLT,Nat.reduceLeDiff,Nat.reduceAdd,Nat.reduceSub,Nat.reduceMul,Int.reduceAdd,Int.reduceSub,Int.reduceMul,Int.reduceNeg,Int.reduceLE,Int.reduceLT,Int.reduceEq,Int.reduceToNat])
            exact h9
          | some x =>
            have ho1 : out = pre ++ [x] := by simpa using ho
            have hc := hcur x rfl
            have hbk := hbk (by rw [ho1]; simp)
            have hb2 := hb2 (by rw [ho1]; simp)
            rw [ho1] at hbk hol ⊢
            have hol : pre.length + 1 ≤ q + p := by simpa using hol
            refine CallH.any (addM_spec bk n pre x ⟨q, 1, p, 0⟩ h hbk hc.1 hc.2 (by omega) (by simp only; omega) (by simp only; omega) (by simp only; omega) (by simp only; omega)) ?_
            intro r3 h3 n3 hx
            have hx1 := hx.choose_spec
            generalize hx.choose = b3 at hx1
            have y1 := hx1.1
            have y2 := hx1.2.1
            have y3 : r3 = hsE b3 (pre ++ [(⟨x.f, x.d + 1, x.t, x.i⟩ : Ed)]) := hx1.2.2.1
            have y4 : get h3 b3 = some (.rows 4 ((pre ++ [(⟨x.f, x.d + 1, x.t, x.i⟩ : Ed)]).map edV)) := hx1.2.2.2.1
            have y5 := hx1.2.2.2.2
            clear hx hx1
            have hnn3 : n + (n3 - n) = n3 := by omega
            have h9 := ih (m - 1) (by omega) (q + 1) p b3 n3 h3 (pre ++ [⟨x.f, x.d + 1, x.t, x.i⟩]) pre (some ⟨x.f, x.d + 1, x.t, x.i⟩) (by omega) (by omega) (by omega) rfl he (fun _ => y4) (by omega) (fun _ => y2) (by omega) (by simp; omega) (by simp; omega) (by simp) (by rw [y5 _ (by omega) (by omega)]; exact hO) (fun i hi => by rw [y5 _ (by omega) (by omega)]; exact hT i hi)
            (try simp only [y3, hnn3, hsE_clr, ex,reduceIte,reduceCtorEq,Nat.reduceEqDiff,Nat.reduceLT,Nat.reduceLeDiff,Nat.reduceAdd,Nat.reduceSub,Nat.reduceMul,Int.reduceAdd,Int.reduceSub,Int.reduceMul,Int.reduceNeg,Int.reduceLE,Int.reduceLT,Int.reduceEq,Int.reduceToNat]) <;> repeat ((with_reducible refine Req.intro ?_ ?_); (first | omega | (simp <;> omega)); try simp only [y3, hnn3, hsE_clr, ex,reduceIte,reduceCtorEq,Nat.reduceEqDiff,Nat.reduceLT,Nat.reduceLeDiff,Nat.reduceAdd,Nat.reduceSub,Nat.reduceMul,Int.reduceAdd,Int.reduceSub,Int.reduceMul,Int.reduceNeg,Int.reduceLE,Int.reduceLT,Int.reduceEq,Int.reduceToNat])
            exact h9
  exact key (a.length + b.length) 0 0 n' n' h' [] [] none (by omega) (by omega) (by omega) rfl (by simp) (by simp) (by omega) (by simp) (by omega) (by simp) (by simp) (by simp) hO hT
end Go.Proofs.Ytmmcepbcjlopdaa.E.Hs

/- The reference's stay, middle, joined, Script: walked. Conditions: none. -/
namespace Go.Proofs.Ytmmcepbcjlopdaa.E.Hs
set_option linter.unusedVariables false
set_option linter.unusedSimpArgs false
set_option maxHeartbeats 20000000
set_option maxRecDepth 100000

/-- A run is added: it is joined with the last one where it goes on from there. -/
def jstep (out : List Rn) (r : Rn) : List Rn := match out.getLast? with
  | some x => if x.A + x.N = r.A ∧ x.B + x.N = r.B then out.dropLast ++ [⟨x.A, x.B, x.N + r.N⟩] else out ++ [r]
  | none => [r]
theorem jstep_nil (r : Rn) : jstep [] r = [r] := rfl
theorem jstep_snoc (pre : List Rn) (x r : Rn) : jstep (pre ++ [x]) r = if x.A + x.N = r.A ∧ x.B + x.N = r.B then pre ++ [⟨x.A, x.B, x.N + r.N⟩] else pre ++ [x] ++ [r] := by
  unfold jstep
  rw [List.getLast?_concat, List.dropLast_concat]
theorem edsOf_j (n m : Nat) (x r : Rn) (l : List Rn) (h1 : x.A + x.N = r.A) (h2 : x.B + x.N = r.B) : ∀ (pre : List Rn) (i j : Nat), edsOf n m (pre ++ (⟨x.A, x.B, x.N + r.N⟩ : Rn) :: l) i j = edsOf n m (pre ++ x :: r :: l) i j
  | [], i, j => by
    simp only [List.nil_append, edsOf]
    rw [← h1, ← h2]
    simp only [gap, Nat.lt_irrefl, or_self, if_false, List.nil_append]
    rw [Nat.add_assoc, Nat.add_assoc]
  | y :: pre, i, j => by
    simp only [List.cons_append, edsOf]
    rw [edsOf_j n m x r l h1 h2 pre]
theorem fit_j (n m : Nat) (x r : Rn) (l : List Rn) (h1 : x.A + x.N = r.A) (h2 : x.B + x.N = r.B) : ∀ (pre : List Rn) (i j : Nat), FitR n m (pre ++ x :: r :: l) i j → FitR n m (pre ++ (⟨x.A, x.B, x.N + r.N⟩ : Rn) :: l) i j
  | [], i, j, h => by
    obtain ⟨a1, a2, a3, a4, a5, b1, b2, b3, b4, b5, b6⟩ := h
    refine ⟨by simp only; omega, a2, a3, by simp only; omega, by simp only; omega, ?_⟩
    simp only
    rw [← Nat.add_assoc, ← Nat.add_assoc, h1, h2]
    exact b6
  | y :: pre, i, j, h => ⟨h.1, h.2.1, h.2.2.1, h.2.2.2.1, h.2.2.2.2.1, fit_j n m x r l h1 h2 pre _ _ h.2.2.2.2.2⟩
theorem jstep_ok (n m : Nat) (out : List Rn) (r : Rn) (l : List Rn) : edsOf n m (jstep out r ++ l) 0 0 = edsOf n m (out ++ r :: l) 0 0 ∧ (FitR n m (out ++ r :: l) 0 0 → FitR n m (jstep out r ++ l) 0 0) := by
  rcases List.eq_nil_or_concat out with rfl | ⟨pre, x, rfl⟩
  · exact ⟨rfl, id⟩
  · rw [List.concat_eq_append, jstep_snoc]
    by_cases c : x.A + x.N = r.A ∧ x.B + x.N = r.B
    · rw [if_pos c]
      have e1 : pre ++ [(⟨x.A, x.B, x.N + r.N⟩ : Rn)] ++ l = pre ++ (⟨x.A, x.B, x.N + r.N⟩ : Rn) :: l := by simp
      have e2 : pre ++ [x] ++ r :: l = pre ++ x :: r :: l := by simp
      rw [e1, e2]
      exact ⟨edsOf_j n m x r l c.1 c.2 pre 0 0, fit_j n m x r l c.1 c.2 pre 0 0⟩
    · rw [if_neg c]
      have e2 : pre ++ [x] ++ [r] ++ l = pre ++ [x] ++ r :: l := by simp
      rw [e2]
      exact ⟨rfl, id⟩
theorem join_ok (n m : Nat) : ∀ (l out : List Rn), edsOf n m (l.foldl jstep out) 0 0 = edsOf n m (out ++ l) 0 0 ∧ (FitR n m (out ++ l) 0 0 → FitR n m (l.foldl jstep out) 0 0)
  | [], out => by simp
  | r :: l, out => by
    have h1 := join_ok n m l (jstep out r)
    have h2 := jstep_ok n m out r l
    rw [List.foldl_cons]
    exact ⟨h1.1.trans h2.1, fun h => h1.2 (h2.2 h)⟩
theorem jstep_len (out : List Rn) (r : Rn) : (jstep out r).length ≤ out.length + 1 := by
  rcases List.eq_nil_or_concat out with rfl | ⟨pre, x, rfl⟩
  · simp [jstep_nil]
  · rw [List.concat_eq_append, jstep_snoc]
    split <;> simp
theorem join_len : ∀ (l out : List Rn), (l.foldl jstep out).length ≤ out.length + l.length
  | [], out => by simp
  | r :: l, out => by
    have := join_len l (jstep out r)
    have := jstep_len out r
    rw [List.foldl_cons, List.length_cons]; omega
/-- No number is great. -/
def SmR (l : List Rn) : Prop := ∀ r ∈ l, r.A + r.N ≤ 1000000 ∧ r.B + r.N ≤ 1000000
theorem jstep_sm {out : List Rn} {r : Rn} (h : SmR out) (hr : r.A + r.N ≤ 1000000 ∧ r.B + r.N ≤ 1000000) : SmR (jstep out r) := by
  rcases List.eq_nil_or_concat out with rfl | ⟨pre, x, rfl⟩
  · intro y hy; rw [jstep_nil, List.mem_singleton] at hy; subst hy; exact hr
  · rw [List.concat_eq_append] at h ⊢
    rw [jstep_snoc]
    intro y hy
    split at hy
    · rename_i c
      rcases List.mem_append.1 hy with hy | hy
      · exact h y (List.mem_append_left _ hy)
      · rw [List.mem_singleton] at hy; subst hy; simp only; omega
    · rcases List.mem_append.1 hy with hy | hy
      · exact h y hy
      · rw [List.mem_singleton] at hy; subst hy; exact hr

theorem joined_spec (o : Bool) (l : List Rn) (hl : l.length ≤ 1000000) (hs : SmR l) :
    Run tab 27 0 [.sl o 3 (l.map rnV)] [] 0 (fun r _ _ => r = .sl true 3 ((l.foldl jstep []).map rnV)) := by
  refine enter (F := f27) rfl rfl ?_
  simp only [f27, ex,reduceIte,reduceCtorEq,Nat.reduceEqDiff,Nat.reduceLT,Nat.reduceLeDiff,Nat.reduceAdd,Nat.reduceSub,Nat.reduceMul,Int.reduceAdd,Int.reduceSub,Int.reduceMul,Int.reduceNeg,Int.reduceLE,Int.reduceLT,Int.reduceEq,Int.reduceToNat]
  (try simp only [ex,reduceIte,reduceCtorEq,Nat.reduceEqDiff,Nat.reduceLT,Nat.reduceLeDiff,Nat.reduceAdd,Nat.reduceSub,Nat.reduceMul,Int.reduceAdd,Int.reduceSub,Int.reduceMul,Int.reduceNeg,Int.reduceLE,Int.reduceLT,Int.reduceEq,Int.reduceToNat]) <;> repeat ((with_reducible refine Req.intro ?_ ?_); (first | omega | (simp <;> omega)); try simp only [ex,reduceIte,reduceCtorEq,Nat.reduceEqDiff,Nat.reduceLT,Nat.reduceLeDiff,Nat.reduceAdd,Nat.reduceSub,Nat.reduceMul,Int.reduceAdd,Int.reduceSub,Int.reduceMul,Int.reduceNeg,Int.reduceLE,Int.reduceLT,Int.reduceEq,Int.reduceToNat])
  refine loopI fun L hL => ?_
  (try simp only [ex,reduceIte,reduceCtorEq,Nat.reduceEqDiff,Nat.reduceLT,Nat.reduceLeDiff,Nat.reduceAdd,Nat.reduceSub,Nat.reduceMul,Int.reduceAdd,Int.reduceSub,Int.reduceMul,Int.reduceNeg,Int.reduceLE,Int.reduceLT,Int.reduceEq,Int.reduceToNat]) <;> repeat ((with_reducible refine Req.intro ?_ ?_); (first | omega | (simp <;> omega)); try simp only [ex,reduceIte,reduceCtorEq,Nat.reduceEqDiff,Nat.reduceLT,Nat.reduceLeDiff,Nat.reduceAdd,Nat.reduceSub,Nat.reduceMul,Int.reduceAdd,Int.reduceSub,Int.reduceMul,Int.reduceNeg,Int.reduceLE,Int.reduceLT,Int.reduceEq,Int.reduceToNat])
  have key : ∀ (m p c : Nat) (out : List Rn), p + m = l.length → out.length ≤ p → SmR out → (l.drop p).foldl jstep out = l.foldl jstep [] → L (L27_1 (.sl o 3 (l.map rnV)) (.sl true 3 (out.map rnV)) (.int .i64 p) [] c) := by
    intro m
    induction m with
    | zero =>
      intro p c out hp ho hso he
      apply hL
      simp only [L27_1, l27_1, ex,reduceIte,reduceCtorEq,Nat.reduceEqDiff,Nat.reduceLT,Nat.reduceLeDiff,Nat.reduceAdd,Nat.reduceSub,Nat.reduceMul,Int.reduceAdd,Int.reduceSub,Int.reduceMul,Int.reduceNeg,Int.reduceLE,Int.reduceLT,Int.reduceEq,Int.reduceToNat]
      have h1 : decide ((p : Int) < (l.length : Int)) = false := by simp; omega
      rw [List.drop_of_length_le (by omega), List.foldl_nil] at he
      rw [← he]
      (try simp only [h1, ex,reduceIte,reduceCtorEq,Nat.reduceEqDiff,Nat.reduceLT,Nat.reduceLeDiff,Nat.reduceAdd,Nat.reduceSub,Nat.reduceMul,Int.reduceAdd,Int.reduceSub,Int.reduceMul,Int.reduceNeg,Int.reduceLE,Int.reduceLT,Int.reduceEq,Int.reduceToNat]) <;> repeat ((with_reducible refine Req.intro ?_ ?_); (first | omega | (simp <;> omega)); try simp only [h1, ex,reduceIte,reduceCtorEq,Nat.reduceEqDiff,Nat.reduceLT,Nat.reduceLeDiff,Nat.reduceAdd,Nat.reduceSub,Nat.reduceMul,Int.reduceAdd,Int.reduceSub,Int.reduceMul,Int.reduceNeg,Int.reduceLE,Int.reduceLT,Int.reduceEq,Int.reduceToNat])
    | succ m ih =>
      intro p c out hp ho hso he
      have h1 : decide ((p : Int) < (l.length : Int)) = true := by simp; omega
      have g1 : l[p]? = some (l[p]'(by omega)) := List.getElem?_eq_getElem _
      have hb := hs (l[p]'(by omega)) (List.getElem_mem _)
      rw [List.drop_eq_getElem_cons (by omega), List.foldl_cons] at he
      generalize hx : l[p]'(by omega) = r at g1 he hb
      have hj := jstep_len out r
      have hsj := jstep_sm hso hb
      rcases List.eq_nil_or_concat out with rfl | ⟨pre, x, rfl⟩
      · have d1 : decide ((-1 : Int) ≥ 0) = false := by decide
        have d2 : decide (((0 : Nat) : Int) - 1 ≥ 0) = false := by decide
        have d3 : decide ((0 : Int) - 1 ≥ 0) = false := by decide
        rw [jstep_nil] at he
        have h9 := fun c => ih (p + 1) c [r] (by omega) (by simp) hsj he
        apply hL
        simp only [L27_1, l27_1, ex,reduceIte,reduceCtorEq,Nat.reduceEqDiff,Nat.reduceLT,Nat.reduceLeDiff,Nat.reduceAdd,Nat.reduceSub,Nat.reduceMul,Int.reduceAdd,Int.reduceSub,Int.reduceMul,Int.reduceNeg,Int.reduceLE,Int.reduceLT,Int.reduceEq,Int.reduceToNat]
        (try simp only [h1, g1, rnV, d1, d2, d3, ex,reduceIte,reduceCtorEq,Nat.reduceEqDiff,Nat.reduceLT,Nat.reduceLeDiff,Nat.reduceAdd,Nat.reduceSub,Nat.reduceMul,Int.reduceAdd,Int.reduceSub,Int.reduceMul,Int.reduceNeg,Int.reduceLE,Int.reduceLT,Int.reduceEq,Int.reduceToNat]) <;> repeat ((with_reducible refine Req.intro ?_ ?_); (first | omega | (simp <;> omega)); try simp only [h1, g1, rnV, d1, d2, d3, ex,reduceIte,reduceCtorEq,Nat.reduceEqDiff,Nat.reduceLT,Nat.reduceLeDiff,Nat.reduceAdd,Nat.reduceSub,Nat.reduceMul,Int.reduceAdd,Int.reduceSub,Int.reduceMul,Int.reduceNeg,Int.reduceLE,Int.reduceLT,Int.reduceEq,Int.reduceToNat])
        exact h9 _
      · rw [List.concat_eq_append] at ho hso he hj hsj ⊢
        have hsx := hso x (by simp)
        rw [jstep_snoc] at he hj hsj
        have hol : pre.length + 1 ≤ p := by simpa using ho
        have hll : (pre ++ [x]).length = pre.length + 1 := by simp
        have t1 : ((pre.length : Int) + 1 - 1).toNat = pre.length := by omega
        have t0 : (((pre.length + 1 : Nat) : Int) - 1).toNat = pre.length := by omega
        have d1 : decide (((pre.length + 1 : Nat) : Int) - 1 ≥ 0) = true := by simp <;> omega
        have gE : (pre ++ [x])[pre.length]? = some x := by simp
        have gT : (pre ++ [x]).take pre.length = pre := by simp
        rcases Classical.em (x.A + x.N = r.A) with c1 | c1
        · have d2 : decide ((x.A : Int) + (x.N : Int) = (r.A : Int)) = true := by simp; omega
          rcases Classical.em (x.B + x.N = r.B) with c2 | c2
          · have d3 : decide ((x.B : Int) + (x.N : Int) = (r.B : Int)) = true := by simp; omega
            rw [if_pos ⟨c1, c2⟩] at he hsj
            have h9 := fun c => ih (p + 1) c (pre ++ [⟨x.A, x.B, x.N + r.N⟩]) (by omega) (by simp; omega) hsj he
            simp only [List.map_append] at h9
            apply hL
            simp only [L27_1, l27_1, ex,reduceIte,reduceCtorEq,Nat.reduceEqDiff,Nat.reduceLT,Nat.reduceLeDiff,Nat.reduceAdd,Nat.reduceSub,Nat.reduceMul,Int.reduceAdd,Int.reduceSub,Int.reduceMul,Int.reduceNeg,Int.reduceLE,Int.reduceLT,Int.reduceEq,Int.reduceToNat]
            (try simp only [h1, g1, rnV, hll, t1, t0, d1, gE, gT, d2, d3, ex,reduceIte,reduceCtorEq,Nat.reduceEqDiff,Nat.reduceLT,Nat.reduceLeDiff,Nat.reduceAdd,Nat.reduceSub,Nat.reduceMul,Int.reduceAdd,Int.reduceSub,Int.reduceMul,Int.reduceNeg,Int.reduceLE,Int.reduceLT,Int.reduceEq,Int.reduceToNat]) <;> repeat ((with_reducible refine Req.intro ?_ ?_); (first | omega | (simp <;> omega)); try simp only [h1, g1, rnV, hll, t1, t0, d1, gE, gT, d2, d3, ex,reduceIte,reduceCtorEq,Nat.reduceEqDiff,Nat.reduceLT,Nat.reduceLeDiff,Nat.reduceAdd,Nat.reduceSub,Nat.reduceMul,Int.reduceAdd,Int.reduceSub,Int.reduceMul,Int.reduceNeg,Int.reduceLE,Int.reduceLT,Int.reduceEq,Int.reduceToNat])
            exact h9 _
          · have d3 : decide ((x.B : Int) + (x.N : Int) = (r.B : Int)) = false := by simp; omega
            rw [if_neg (fun h => c2 h.2)] at he hsj
            have h9 := fun c => ih (p + 1) c (pre ++ [x] ++ [r]) (by omega) (by simp; omega) hsj he
            simp only [List.map_append (l₁ := pre ++ [x])] at h9
            apply hL
            simp only [L27_1, l27_1, ex,reduceIte,reduceCtorEq,Nat.reduceEqDiff,Nat.reduceLT,Nat.reduceLeDiff,Nat.reduceAdd,Nat.reduceSub,Nat.reduceMul,Int.reduceAdd,Int.reduceSub,Int.reduceMul,Int.reduceNeg,Int.reduceLE,Int.reduceLT,Int.reduceEq,Int.reduceToNat]
            (try simp only [h1, g1, rnV, hll, t1, t0, d1, gE, gT, d2, d3, ex,reduceIte,reduceCtorEq,Nat.reduceEqDiff,Nat.reduceLT,Nat.reduceLeDiff,Nat.reduceAdd,Nat.reduceSub,Nat.reduceMul,Int.reduceAdd,Int.reduceSub,Int.reduceMul,Int.reduceNeg,Int.reduceLE,Int.reduceLT,Int.reduceEq,Int.reduceToNat]) <;> repeat ((with_reducible refine Req.intro ?_ ?_); (first | omega | (simp <;> omega)); try simp only [h1, g1, rnV, hll, t1, t0, d1, gE, gT, d2, d3, ex,reduceIte,reduceCtorEq,Nat.reduceEqDiff,Nat.reduceLT,Nat.reduceLeDiff,Nat.reduceAdd,Nat.reduceSub,Nat.reduceMul,Int.reduceAdd,Int.reduceSub,Int.reduceMul,Int.reduceNeg,Int.reduceLE,Int.reduceLT,Int.reduceEq,Int.reduceToNat])
            exact h9 _
        · have d2 : decide ((x.A : Int) + (x.N : Int) = (r.A : Int)) = false := by simp; omega
          rw [if_neg (fun h => c1 h.1)] at he hsj
          have h9 := fun c => ih (p + 1) c (pre ++ [x] ++ [r]) (by omega) (by simp; omega) hsj he
          simp only [List.map_append (l₁ := pre ++ [x])] at h9
          apply hL
          simp only [L27_1, l27_1, ex,reduceIte,reduceCtorEq,Nat.reduceEqDiff,Nat.reduceLT,Nat.reduceLeDiff,Nat.reduceAdd,Nat.reduceSub,Nat.reduceMul,Int.reduceAdd,Int.reduceSub,Int.reduceMul,Int.reduceNeg,Int.reduceLE,Int.reduceLT,Int.reduceEq,Int.reduceToNat]
          (try simp only [h1, g1, rnV, hll, t1, t0, d1, gE, gT, d2, ex,reduceIte,reduceCtorEq,Nat.reduceEqDiff,Nat.reduceLT,Nat.reduceLeDiff,Nat.reduceAdd,Nat.reduceSub,Nat.reduceMul,Int.reduceAdd,Int.reduceSub,Int.reduceMul,Int.reduceNeg,Int.reduceLE,Int.reduceLT,Int.reduceEq,Int.reduceToNat]) <;> repeat ((with_reducible refine Req.intro ?_ ?_); (first | omega | (simp <;> omega)); try simp only [h1, g1, rnV, hll, t1, t0, d1, gE, gT, d2, ex,reduceIte,reduceCtorEq,Nat.reduceEqDiff,Nat.reduceLT,Nat.reduceLeDiff,Nat.reduceAdd,Nat.reduceSub,Nat.reduceMul,Int.reduceAdd,Int.reduceSub,Int.reduceMul,Int.reduceNeg,Int.reduceLE,Int.reduceLT,Int.reduceEq,Int.reduceToNat])
          exact h9 _
  exact key l.length 0 0 [] (Nat.zero_add _) (by simp) (fun r hr => by simp at hr) (by simp)
end Go.Proofs.Ytmmcepbcjlopdaa.E.Hs

/- The reference's stay, middle, Script: walked. Conditions: none. -/
namespace Go.Proofs.Ytmmcepbcjlopdaa.E.Hs
set_option linter.unusedVariables false
set_option linter.unusedSimpArgs false
set_option maxHeartbeats 20000000
set_option maxRecDepth 100000

theorem ranchor2_spec (o o' : Bool) (a b : List S) (ha : a.length ≤ 1000000) (hb : b.length ≤ 1000000) :
    Run tab 14 0 [.sl o 1 (a.map .str), .sl o' 1 (b.map .str)] [] 0 (fun r _ _ => r = .tup [(.agg [.int .i64 ((pRes a b).best).A, .int .i64 ((pRes a b).best).B, .int .i64 ((pRes a b).best).N]), .bool (pRes a b).found]) := by
  have h := anchors_same a b
  rw [h.1, h.2]
  exact ranchor_spec o o' a b (by omega) (by omega)
theorem suf_lt2 {a b : List S} {p m : Nat} (hp : p ≤ a.length ∧ p ≤ b.length) (h : m < suf (a.drop p) (b.drop p)) : ∃ s, a[a.length - 1 - m]? = some s ∧ b[b.length - 1 - m]? = some s := by
  have hl := suf_le (a.drop p) (b.drop p)
  obtain ⟨s, h1, h2⟩ := suf_lt h
  simp only [List.length_drop] at hl h1 h2
  rw [List.getElem?_drop] at h1 h2
  rw [show p + (a.length - p - 1 - m) = a.length - 1 - m by omega] at h1
  rw [show p + (b.length - p - 1 - m) = b.length - 1 - m by omega] at h2
  exact ⟨s, h1, h2⟩
theorem suf_end2 {a b : List S} {p : Nat} {s t : S} (h1 : suf (a.drop p) (b.drop p) < a.length - p) (h2 : suf (a.drop p) (b.drop p) < b.length - p) (h3 : a[a.length - 1 - suf (a.drop p) (b.drop p)]? = some s) (h4 : b[b.length - 1 - suf (a.drop p) (b.drop p)]? = some t) : s ≠ t := by
  refine suf_end (a := a.drop p) (b := b.drop p) (by simpa using h1) (by simpa using h2) ?_ ?_
  · rw [List.getElem?_drop, List.length_drop, show p + (a.length - p - 1 - suf (a.drop p) (b.drop p)) = a.length - 1 - suf (a.drop p) (b.drop p) by omega]; exact h3
  · rw [List.getElem?_drop, List.length_drop, show p + (b.length - p - 1 - suf (a.drop p) (b.drop p)) = b.length - 1 - suf (a.drop p) (b.drop p) by omega]; exact h4
theorem stz_filter (k : Nat) (a b : List S) : (stz (k + 1) a b).filter nz = (if 0 < lcp a b then [⟨0, 0, lcp a b⟩] else []) ++ (shR (lcp a b) (lcp a b) (if cutA a b = [] ∨ cutB a b = [] then [] else (midz k (cutA a b) (cutB a b)).filter nz) ++ (if 0 < suf (a.drop (lcp a b)) (b.drop (lcp a b)) then [⟨(cutA a b).length + lcp a b, (cutB a b).length + lcp a b, suf (a.drop (lcp a b)) (b.drop (lcp a b))⟩] else [])) := by
  rw [stz_succ, List.filter_cons, shR_nz, List.filter_append, shR_app]
  have e1 : ([(⟨(cutA a b).length, (cutB a b).length, suf (a.drop (lcp a b)) (b.drop (lcp a b))⟩ : Rn)].filter nz) = if 0 < suf (a.drop (lcp a b)) (b.drop (lcp a b)) then [⟨(cutA a b).length, (cutB a b).length, suf (a.drop (lcp a b)) (b.drop (lcp a b))⟩] else [] := filter_one _
  rw [e1]
  have e2 : (if cutA a b = [] ∨ cutB a b = [] then [] else midz k (cutA a b) (cutB a b)).filter nz = (if cutA a b = [] ∨ cutB a b = [] then [] else (midz k (cutA a b) (cutB a b)).filter nz) := by split <;> rfl
  rw [e2]
  have e3 : shR (lcp a b) (lcp a b) (if 0 < suf (a.drop (lcp a b)) (b.drop (lcp a b)) then [(⟨(cutA a b).length, (cutB a b).length, suf (a.drop (lcp a b)) (b.drop (lcp a b))⟩ : Rn)] else []) = (if 0 < suf (a.drop (lcp a b)) (b.drop (lcp a b)) then [⟨(cutA a b).length + lcp a b, (cutB a b).length + lcp a b, suf (a.drop (lcp a b)) (b.drop (lcp a b))⟩] else []) := by split <;> rfl
  rw [e3]
  by_cases c : 0 < lcp a b
  · rw [if_pos c, if_pos (by simp [nz]; omega)]; rfl
  · rw [if_neg c, if_neg (by simp [nz]; omega)]; rfl

def StayAt (k : Nat) : Prop := ∀ (o o' : Bool) (a b : List S), a.length ≤ 4096 → b.length ≤ 4096 → a.length + b.length < k →
    Run tab 28 0 [.sl o 1 (a.map .str), .sl o' 1 (b.map .str)] [] 0 (fun r _ _ => r = .sl true 3 (((stz k a b).filter nz).map rnV))
theorem filt_len (k : Nat) (a b : List S) (ha : a.length ≤ 4096) (hb : b.length ≤ 4096) : ((stz k a b).filter nz).length ≤ 4 * (a.length + b.length) + 2 :=
  Nat.le_trans (List.length_filter_le _ _) (stz_len k a b (by omega) (by omega))
theorem middle_spec (k : Nat) (ih : StayAt k) (o o' : Bool) (a b : List S) (ha : a.length ≤ 4096) (hb : b.length ≤ 4096) (hk : a.length + b.length ≤ k) :
    Run tab 40 0 [.sl o 1 (a.map .str), .sl o' 1 (b.map .str)] [] 0 (fun r _ _ => r = .sl true 3 (((midz k a b).filter nz).map rnV)) := by
  have hPf := pRes_fits a b
  have hlc := (leastRn_com a b ha hb).1.pos
  have hsm := leastEd_small a b (by omega) (by omega)
  have hm : midz k a b = if (pRes a b).found = true then stz k (a.take (pRes a b).best.A) (b.take (pRes a b).best.B) ++ ((pRes a b).best :: shR ((pRes a b).best.A + (pRes a b).best.N) ((pRes a b).best.B + (pRes a b).best.N) (stz k (a.drop ((pRes a b).best.A + (pRes a b).best.N)) (b.drop ((pRes a b).best.B + (pRes a b).best.N)))) else leastRn a b := rfl
  cases hf : (pRes a b).found with
  | true =>
    have hP := hPf hf
    rw [if_pos hf] at hm
    rw [hm]
    refine enter (F := f40) rfl rfl ?_
    simp only [f40, ex,reduceIte,reduceCtorEq,Nat.reduceEqDiff,Nat.reduceLT,Nat.reduceLeDiff,Nat.reduceAdd,Nat.reduceSub,Nat.reduceMul,Int.reduceAdd,Int.reduceSub,Int.reduceMul,Int.reduceNeg,Int.reduceLE,Int.reduceLT,Int.reduceEq,Int.reduceToNat]
    (try simp only [ex,reduceIte,reduceCtorEq,Nat.reduceEqDiff,Nat.reduceLT,Nat.reduceLeDiff,Nat.reduceAdd,Nat.reduceSub,Nat.reduceMul,Int.reduceAdd,Int.reduceSub,Int.reduceMul,Int.reduceNeg,Int.reduceLE,Int.reduceLT,Int.reduceEq,Int.reduceToNat]) <;> repeat ((with_reducible refine Req.intro ?_ ?_); (first | omega | (simp <;> omega)); try simp only [ex,reduceIte,reduceCtorEq,Nat.reduceEqDiff,Nat.reduceLT,Nat.reduceLeDiff,Nat.reduceAdd,Nat.reduceSub,Nat.reduceMul,Int.reduceAdd,Int.reduceSub,Int.reduceMul,Int.reduceNeg,Int.reduceLE,Int.reduceLT,Int.reduceEq,Int.reduceToNat])
    refine CallA.eq rfl (ranchor2_spec _ _ a b (by omega) (by omega)) rfl ?_
    generalize (pRes a b).best = r at *
    have p1 := hP.2.1
    have p2 := hP.2.2.1
    have p3 := hP.2.2.2
    have q1 := filt_len k (a.take r.A) (b.take r.B) (by simp; omega) (by simp; omega)
    have q2 := filt_len k (a.drop (r.A + r.N)) (b.drop (r.B + r.N)) (by simp; omega) (by simp; omega)
    have q3 := Com.fitall (stz_com k (a.drop (r.A + r.N)) (b.drop (r.B + r.N)) (by simp; omega) (by simp; omega))
    simp only [List.length_take, List.length_drop] at q1 q2 q3
    (try simp only [hf, ex,reduceIte,reduceCtorEq,Nat.reduceEqDiff,Nat.reduceLT,Nat.reduceLeDiff,Nat.reduceAdd,Nat.reduceSub,Nat.reduceMul,Int.reduceAdd,Int.reduceSub,Int.reduceMul,Int.reduceNeg,Int.reduceLE,Int.reduceLT,Int.reduceEq,Int.reduceToNat]) <;> repeat ((with_reducible refine Req.intro ?_ ?_); (first | omega | (simp <;> omega)); try simp only [hf, ex,reduceIte,reduceCtorEq,Nat.reduceEqDiff,Nat.reduceLT,Nat.reduceLeDiff,Nat.reduceAdd,Nat.reduceSub,Nat.reduceMul,Int.reduceAdd,Int.reduceSub,Int.reduceMul,Int.reduceNeg,Int.reduceLE,Int.reduceLT,Int.reduceEq,Int.reduceToNat])
    refine CallD.eq rfl (ih _ _ (a.take r.A) (b.take r.B) (by simp; omega) (by simp; omega) (by simp; omega)) rfl ?_
    (try simp only [ex,reduceIte,reduceCtorEq,Nat.reduceEqDiff,Nat.reduceLT,Nat.reduceLeDiff,Nat.reduceAdd,Nat.reduceSub,Nat.reduceMul,Int.reduceAdd,Int.reduceSub,Int.reduceMul,Int.reduceNeg,Int.reduceLE,Int.reduceLT,Int.reduceEq,Int.reduceToNat]) <;> repeat ((with_reducible refine Req.intro ?_ ?_); (first | omega | (simp <;> omega)); try simp only [ex,reduceIte,reduceCtorEq,Nat.reduceEqDiff,Nat.reduceLT,Nat.reduceLeDiff,Nat.reduceAdd,Nat.reduceSub,Nat.reduceMul,Int.reduceAdd,Int.reduceSub,Int.reduceMul,Int.reduceNeg,Int.reduceLE,Int.reduceLT,Int.reduceEq,Int.reduceToNat])
    refine CallD.eq rfl (ih _ _ (a.drop (r.A + r.N)) (b.drop (r.B + r.N)) (by simp; omega) (by simp; omega) (by simp; omega)) rfl ?_
    (try simp only [ex,reduceIte,reduceCtorEq,Nat.reduceEqDiff,Nat.reduceLT,Nat.reduceLeDiff,Nat.reduceAdd,Nat.reduceSub,Nat.reduceMul,Int.reduceAdd,Int.reduceSub,Int.reduceMul,Int.reduceNeg,Int.reduceLE,Int.reduceLT,Int.reduceEq,Int.reduceToNat]) <;> repeat ((with_reducible refine Req.intro ?_ ?_); (first | omega | (simp <;> omega)); try simp only [ex,reduceIte,reduceCtorEq,Nat.reduceEqDiff,Nat.reduceLT,Nat.reduceLeDiff,Nat.reduceAdd,Nat.reduceSub,Nat.reduceMul,Int.reduceAdd,Int.reduceSub,Int.reduceMul,Int.reduceNeg,Int.reduceLE,Int.reduceLT,Int.reduceEq,Int.reduceToNat])
    refine CallD.eq rfl (moved_spec _ _ (r.A + r.N) (r.B + r.N) (by omega) (fun x hx => by have := q3 x hx; omega) (by omega) (by omega)) rfl ?_
    (try simp only [ex,reduceIte,reduceCtorEq,Nat.reduceEqDiff,Nat.reduceLT,Nat.reduceLeDiff,Nat.reduceAdd,Nat.reduceSub,Nat.reduceMul,Int.reduceAdd,Int.reduceSub,Int.reduceMul,Int.reduceNeg,Int.reduceLE,Int.reduceLT,Int.reduceEq,Int.reduceToNat]) <;> repeat ((with_reducible refine Req.intro ?_ ?_); (first | omega | (simp <;> omega)); try simp only [ex,reduceIte,reduceCtorEq,Nat.reduceEqDiff,Nat.reduceLT,Nat.reduceLeDiff,Nat.reduceAdd,Nat.reduceSub,Nat.reduceMul,Int.reduceAdd,Int.reduceSub,Int.reduceMul,Int.reduceNeg,Int.reduceLE,Int.reduceLT,Int.reduceEq,Int.reduceToNat])
    rw [List.filter_append, List.filter_cons, if_pos (by simp [nz]; omega), shR_nz]
    simp [shR, rnV]
  | false =>
    rw [if_neg (by rw [hf]; decide)] at hm
    rw [hm, hlc]
    refine enter (F := f40) rfl rfl ?_
    simp only [f40, ex,reduceIte,reduceCtorEq,Nat.reduceEqDiff,Nat.reduceLT,Nat.reduceLeDiff,Nat.reduceAdd,Nat.reduceSub,Nat.reduceMul,Int.reduceAdd,Int.reduceSub,Int.reduceMul,Int.reduceNeg,Int.reduceLE,Int.reduceLT,Int.reduceEq,Int.reduceToNat]
    (try simp only [ex,reduceIte,reduceCtorEq,Nat.reduceEqDiff,Nat.reduceLT,Nat.reduceLeDiff,Nat.reduceAdd,Nat.reduceSub,Nat.reduceMul,Int.reduceAdd,Int.reduceSub,Int.reduceMul,Int.reduceNeg,Int.reduceLE,Int.reduceLT,Int.reduceEq,Int.reduceToNat]) <;> repeat ((with_reducible refine Req.intro ?_ ?_); (first | omega | (simp <;> omega)); try simp only [ex,reduceIte,reduceCtorEq,Nat.reduceEqDiff,Nat.reduceLT,Nat.reduceLeDiff,Nat.reduceAdd,Nat.reduceSub,Nat.reduceMul,Int.reduceAdd,Int.reduceSub,Int.reduceMul,Int.reduceNeg,Int.reduceLE,Int.reduceLT,Int.reduceEq,Int.reduceToNat])
    refine CallA.eq rfl (ranchor2_spec _ _ a b (by omega) (by omega)) rfl ?_
    (try simp only [hf, ex,reduceIte,reduceCtorEq,Nat.reduceEqDiff,Nat.reduceLT,Nat.reduceLeDiff,Nat.reduceAdd,Nat.reduceSub,Nat.reduceMul,Int.reduceAdd,Int.reduceSub,Int.reduceMul,Int.reduceNeg,Int.reduceLE,Int.reduceLT,Int.reduceEq,Int.reduceToNat]) <;> repeat ((with_reducible refine Req.intro ?_ ?_); (first | omega | (simp <;> omega)); try simp only [hf, ex,reduceIte,reduceCtorEq,Nat.reduceEqDiff,Nat.reduceLT,Nat.reduceLeDiff,Nat.reduceAdd,Nat.reduceSub,Nat.reduceMul,Int.reduceAdd,Int.reduceSub,Int.reduceMul,Int.reduceNeg,Int.reduceLE,Int.reduceLT,Int.reduceEq,Int.reduceToNat])
    refine CallA.eq rfl (rleast_spec _ _ a b (by omega) (by omega)) rfl ?_
    (try simp only [ex,reduceIte,reduceCtorEq,Nat.reduceEqDiff,Nat.reduceLT,Nat.reduceLeDiff,Nat.reduceAdd,Nat.reduceSub,Nat.reduceMul,Int.reduceAdd,Int.reduceSub,Int.reduceMul,Int.reduceNeg,Int.reduceLE,Int.reduceLT,Int.reduceEq,Int.reduceToNat]) <;> repeat ((with_reducible refine Req.intro ?_ ?_); (first | omega | (simp <;> omega)); try simp only [ex,reduceIte,reduceCtorEq,Nat.reduceEqDiff,Nat.reduceLT,Nat.reduceLeDiff,Nat.reduceAdd,Nat.reduceSub,Nat.reduceMul,Int.reduceAdd,Int.reduceSub,Int.reduceMul,Int.reduceNeg,Int.reduceLE,Int.reduceLT,Int.reduceEq,Int.reduceToNat])
    refine CallA.eq rfl (stay_spec _ (leastEd a b) a.length hsm.1 (by omega)) rfl ?_
    (try simp only [ex,reduceIte,reduceCtorEq,Nat.reduceEqDiff,Nat.reduceLT,Nat.reduceLeDiff,Nat.reduceAdd,Nat.reduceSub,Nat.reduceMul,Int.reduceAdd,Int.reduceSub,Int.reduceMul,Int.reduceNeg,Int.reduceLE,Int.reduceLT,Int.reduceEq,Int.reduceToNat]) <;> repeat ((with_reducible refine Req.intro ?_ ?_); (first | omega | (simp <;> omega)); try simp only [ex,reduceIte,reduceCtorEq,Nat.reduceEqDiff,Nat.reduceLT,Nat.reduceLeDiff,Nat.reduceAdd,Nat.reduceSub,Nat.reduceMul,Int.reduceAdd,Int.reduceSub,Int.reduceMul,Int.reduceNeg,Int.reduceLE,Int.reduceLT,Int.reduceEq,Int.reduceToNat])
    rfl
theorem rstay_spec : ∀ k, StayAt k := by
  intro k
  induction k with
  | zero => intro o o' a b ha hb hk; omega
  | succ k ih =>
    intro o o' a b ha hb hk
    have hp := lcp_le a b
    have hend := lcp_end a b
    have hlt := lcp_lt a b
    have hcl := cut_len a b
    have hslt := fun m => @suf_lt2 a b (lcp a b) m hp
    have hsend := @suf_end2 a b (lcp a b)
    have hmid := middle_spec k ih
    have hml : ∀ x ∈ (if cutA a b = [] ∨ cutB a b = [] then [] else (midz k (cutA a b) (cutB a b)).filter nz), x.A + x.N ≤ 4096 ∧ x.B + x.N ≤ 4096 := by
      split
      · simp
      · have h9 := Com.fitall (midz_com k (cutA a b) (cutB a b) (by omega) (by omega))
        intro x hx
        have := h9 x hx
        omega
    have hmn : (if cutA a b = [] ∨ cutB a b = [] then [] else (midz k (cutA a b) (cutB a b)).filter nz).length ≤ 100000 := by
      have h9 := filt_len (k + 1) a b ha hb
      rw [stz_filter] at h9
      simp only [List.length_append, shR_len] at h9
      omega
    have hst := stz_filter k a b
    have hA0 : (a.take (a.length - suf (a.drop (lcp a b)) (b.drop (lcp a b)))).drop (lcp a b) = cutA a b := by
      unfold cutA; rw [List.drop_take, show a.length - suf (a.drop (lcp a b)) (b.drop (lcp a b)) - lcp a b = a.length - lcp a b - suf (a.drop (lcp a b)) (b.drop (lcp a b)) by omega]
    have hB0 : (b.take (b.length - suf (a.drop (lcp a b)) (b.drop (lcp a b)))).drop (lcp a b) = cutB a b := by
      unfold cutB; rw [List.drop_take, show b.length - suf (a.drop (lcp a b)) (b.drop (lcp a b)) - lcp a b = b.length - lcp a b - suf (a.drop (lcp a b)) (b.drop (lcp a b)) by omega]
    rw [hst]
    clear hst
    generalize cutA a b = a2 at *
    generalize cutB a b = b2 at *
    generalize suf (a.drop (lcp a b)) (b.drop (lcp a b)) = m at *
    generalize lcp a b = p at *
    refine enter (F := f28) rfl rfl ?_
    simp only [f28, ex,reduceIte,reduceCtorEq,Nat.reduceEqDiff,Nat.reduceLT,Nat.reduceLeDiff,Nat.reduceAdd,Nat.reduceSub,Nat.reduceMul,Int.reduceAdd,Int.reduceSub,Int.reduceMul,Int.reduceNeg,Int.reduceLE,Int.reduceLT,Int.reduceEq,Int.reduceToNat]
    (try simp only [ex,reduceIte,reduceCtorEq,Nat.reduceEqDiff,Nat.reduceLT,Nat.reduceLeDiff,Nat.reduceAdd,Nat.reduceSub,Nat.reduceMul,Int.reduceAdd,Int.reduceSub,Int.reduceMul,Int.reduceNeg,Int.reduceLE,Int.reduceLT,Int.reduceEq,Int.reduceToNat]) <;> repeat ((with_reducible refine Req.intro ?_ ?_); (first | omega | (simp <;> omega)); try simp only [ex,reduceIte,reduceCtorEq,Nat.reduceEqDiff,Nat.reduceLT,Nat.reduceLeDiff,Nat.reduceAdd,Nat.reduceSub,Nat.reduceMul,Int.reduceAdd,Int.reduceSub,Int.reduceMul,Int.reduceNeg,Int.reduceLE,Int.reduceLT,Int.reduceEq,Int.reduceToNat])
    refine loopI fun L1 hL1 => ?_
    (try simp only [ex,reduceIte,reduceCtorEq,Nat.reduceEqDiff,Nat.reduceLT,Nat.reduceLeDiff,Nat.reduceAdd,Nat.reduceSub,Nat.reduceMul,Int.reduceAdd,Int.reduceSub,Int.reduceMul,Int.reduceNeg,Int.reduceLE,Int.reduceLT,Int.reduceEq,Int.reduceToNat]) <;> repeat ((with_reducible refine Req.intro ?_ ?_); (first | omega | (simp <;> omega)); try simp only [ex,reduceIte,reduceCtorEq,Nat.reduceEqDiff,Nat.reduceLT,Nat.reduceLeDiff,Nat.reduceAdd,Nat.reduceSub,Nat.reduceMul,Int.reduceAdd,Int.reduceSub,Int.reduceMul,Int.reduceNeg,Int.reduceLE,Int.reduceLT,Int.reduceEq,Int.reduceToNat])
    have key1 : ∀ m1 q : Nat, q + m1 = p → L1 (L28_1 (.sl o 1 (a.map .str)) (.sl o' 1 (b.map .str)) (.int .i64 q) [] 0) := by
      intro m1
      induction m1 with
      | succ m1 ih1 =>
        intro q hq
        apply hL1
        simp only [L28_1, l28_1, ex,reduceIte,reduceCtorEq,Nat.reduceEqDiff,Nat.reduceLT,Nat.reduceLeDiff,Nat.reduceAdd,Nat.reduceSub,Nat.reduceMul,Int.reduceAdd,Int.reduceSub,Int.reduceMul,Int.reduceNeg,Int.reduceLE,Int.reduceLT,Int.reduceEq,Int.reduceToNat]
        have h1 : decide ((q : Int) < (a.length : Int)) = true := by simp; omega
        have h2 : decide ((q : Int) < (b.length : Int)) = true := by simp; omega
        have hs := hlt q (by omega)
        have g1 := hs.choose_spec.1
        have g2 := hs.choose_spec.2
        generalize hs.choose = x at g1 g2
        have h3 : decide (x = x) = true := by simp
        (try simp only [h1, h2, g1, g2, h3, ex,reduceIte,reduceCtorEq,Nat.reduceEqDiff,Nat.reduceLT,Nat.reduceLeDiff,Nat.reduceAdd,Nat.reduceSub,Nat.reduceMul,Int.reduceAdd,Int.reduceSub,Int.reduceMul,Int.reduceNeg,Int.reduceLE,Int.reduceLT,Int.reduceEq,Int.reduceToNat]) <;> repeat ((with_reducible refine Req.intro ?_ ?_); (first | omega | (simp <;> omega)); try simp only [h1, h2, g1, g2, h3, ex,reduceIte,reduceCtorEq,Nat.reduceEqDiff,Nat.reduceLT,Nat.reduceLeDiff,Nat.reduceAdd,Nat.reduceSub,Nat.reduceMul,Int.reduceAdd,Int.reduceSub,Int.reduceMul,Int.reduceNeg,Int.reduceLE,Int.reduceLT,Int.reduceEq,Int.reduceToNat])
        exact ih1 (q + 1) (by omega)
      | zero =>
        intro q hq
        have hq' : q = p := by omega
        subst hq'
        apply hL1
        simp only [L28_1, l28_1, ex,reduceIte,reduceCtorEq,Nat.reduceEqDiff,Nat.reduceLT,Nat.reduceLeDiff,Nat.reduceAdd,Nat.reduceSub,Nat.reduceMul,Int.reduceAdd,Int.reduceSub,Int.reduceMul,Int.reduceNeg,Int.reduceLE,Int.reduceLT,Int.reduceEq,Int.reduceToNat]
        apply shareL
        · intro share
          rcases Nat.lt_or_ge q a.length with c1 | c1
          · have h1 : decide ((q : Int) < (a.length : Int)) = true := by simp; omega
            rcases Nat.lt_or_ge q b.length with c2 | c2
            · have h2 : decide ((q : Int) < (b.length : Int)) = true := by simp; omega
              have g1 : a[q]? = some (a[q]'(by omega)) := List.getElem?_eq_getElem _
              have g2 : b[q]? = some (b[q]'(by omega)) := List.getElem?_eq_getElem _
              have h3 : decide (a[q]'(by omega) = b[q]'(by omega)) = false := by simpa using hend _ _ g1 g2
              (try simp only [h1, h2, g1, g2, h3, ex,reduceIte,reduceCtorEq,Nat.reduceEqDiff,Nat.reduceLT,Nat.reduceLeDiff,Nat.reduceAdd,Nat.reduceSub,Nat.reduceMul,Int.reduceAdd,Int.reduceSub,Int.reduceMul,Int.reduceNeg,Int.reduceLE,Int.reduceLT,Int.reduceEq,Int.reduceToNat]) <;> repeat ((with_reducible refine Req.intro ?_ ?_); (first | omega | (simp <;> omega)); try simp only [h1, h2, g1, g2, h3, ex,reduceIte,reduceCtorEq,Nat.reduceEqDiff,Nat.reduceLT,Nat.reduceLeDiff,Nat.reduceAdd,Nat.reduceSub,Nat.reduceMul,Int.reduceAdd,Int.reduceSub,Int.reduceMul,Int.reduceNeg,Int.reduceLE,Int.reduceLT,Int.reduceEq,Int.reduceToNat])
              exact share.out
            · have h2 : decide ((q : Int) < (b.length : Int)) = false := by simp; omega
              (try simp only [h1, h2, ex,reduceIte,reduceCtorEq,Nat.reduceEqDiff,Nat.reduceLT,Nat.reduceLeDiff,Nat.reduceAdd,Nat.reduceSub,Nat.reduceMul,Int.reduceAdd,Int.reduceSub,Int.reduceMul,Int.reduceNeg,Int.reduceLE,Int.reduceLT,Int.reduceEq,Int.reduceToNat]) <;> repeat ((with_reducible refine Req.intro ?_ ?_); (first | omega | (simp <;> omega)); try simp only [h1, h2, ex,reduceIte,reduceCtorEq,Nat.reduceEqDiff,Nat.reduceLT,Nat.reduceLeDiff,Nat.reduceAdd,Nat.reduceSub,Nat.reduceMul,Int.reduceAdd,Int.reduceSub,Int.reduceMul,Int.reduceNeg,Int.reduceLE,Int.reduceLT,Int.reduceEq,Int.reduceToNat])
              exact share.out
          · have h1 : decide ((q : Int) < (a.length : Int)) = false := by simp; omega
            (try simp only [h1, ex,reduceIte,reduceCtorEq,Nat.reduceEqDiff,Nat.reduceLT,Nat.reduceLeDiff,Nat.reduceAdd,Nat.reduceSub,Nat.reduceMul,Int.reduceAdd,Int.reduceSub,Int.reduceMul,Int.reduceNeg,Int.reduceLE,Int.reduceLT,Int.reduceEq,Int.reduceToNat]) <;> repeat ((with_reducible refine Req.intro ?_ ?_); (first | omega | (simp <;> omega)); try simp only [h1, ex,reduceIte,reduceCtorEq,Nat.reduceEqDiff,Nat.reduceLT,Nat.reduceLeDiff,Nat.reduceAdd,Nat.reduceSub,Nat.reduceMul,Int.reduceAdd,Int.reduceSub,Int.reduceMul,Int.reduceNeg,Int.reduceLE,Int.reduceLT,Int.reduceEq,Int.reduceToNat])
            exact share.out
        · refine loopI fun L2 hL2 => ?_
          (try simp only [ex,reduceIte,reduceCtorEq,Nat.reduceEqDiff,Nat.reduceLT,Nat.reduceLeDiff,Nat.reduceAdd,Nat.reduceSub,Nat.reduceMul,Int.reduceAdd,Int.reduceSub,Int.reduceMul,Int.reduceNeg,Int.reduceLE,Int.reduceLT,Int.reduceEq,Int.reduceToNat]) <;> repeat ((with_reducible refine Req.intro ?_ ?_); (first | omega | (simp <;> omega)); try simp only [ex,reduceIte,reduceCtorEq,Nat.reduceEqDiff,Nat.reduceLT,Nat.reduceLeDiff,Nat.reduceAdd,Nat.reduceSub,Nat.reduceMul,Int.reduceAdd,Int.reduceSub,Int.reduceMul,Int.reduceNeg,Int.reduceLE,Int.reduceLT,Int.reduceEq,Int.reduceToNat])
          have key2 : ∀ mm p : Nat, p + mm = m → L2 (L28_2 (.sl o 1 (a.map .str)) (.sl o' 1 (b.map .str)) (.int .i64 q) (.int .i64 p) [] 0) := by
            intro mm
            induction mm with
            | succ mm ih2 =>
              intro p hp2
              apply hL2
              simp only [L28_2, l28_2, ex,reduceIte,reduceCtorEq,Nat.reduceEqDiff,Nat.reduceLT,Nat.reduceLeDiff,Nat.reduceAdd,Nat.reduceSub,Nat.reduceMul,Int.reduceAdd,Int.reduceSub,Int.reduceMul,Int.reduceNeg,Int.reduceLE,Int.reduceLT,Int.reduceEq,Int.reduceToNat]
              have h1 : decide ((p : Int) < (a.length : Int) - (q : Int)) = true := by simp; omega
              have h2 : decide ((p : Int) < (b.length : Int) - (q : Int)) = true := by simp; omega
              have hs := hslt p (by omega)
              have g1 := hs.choose_spec.1
              have g2 := hs.choose_spec.2
              generalize hs.choose = x at g1 g2
              have h3 : decide (x = x) = true := by simp
              have t1 : ((a.length : Int) - 1 - (p : Int)).toNat = a.length - 1 - p := by omega
              have t2 : ((b.length : Int) - 1 - (p : Int)).toNat = b.length - 1 - p := by omega
              (try simp only [h1, h2, t1, t2, g1, g2, h3, ex,reduceIte,reduceCtorEq,Nat.reduceEqDiff,Nat.reduceLT,Nat.reduceLeDiff,Nat.reduceAdd,Nat.reduceSub,Nat.reduceMul,Int.reduceAdd,Int.reduceSub,Int.reduceMul,Int.reduceNeg,Int.reduceLE,Int.reduceLT,Int.reduceEq,Int.reduceToNat]) <;> repeat ((with_reducible refine Req.intro ?_ ?_); (first | omega | (simp <;> omega)); try simp only [h1, h2, t1, t2, g1, g2, h3, ex,reduceIte,reduceCtorEq,Nat.reduceEqDiff,Nat.reduceLT,Nat.reduceLeDiff,Nat.reduceAdd,Nat.reduceSub,Nat.reduceMul,Int.reduceAdd,Int.reduceSub,Int.reduceMul,Int.reduceNeg,Int.reduceLE,Int.reduceLT,Int.reduceEq,Int.reduceToNat])
              exact ih2 (p + 1) (by omega)
            | zero =>
              intro p hp2
              have hp' : p = m := by omega
              subst hp'
              have u1 : ((a.length : Int) - (p : Int)).toNat = a.length - p := by omega
              have u2 : ((b.length : Int) - (p : Int)).toNat = b.length - p := by omega
              apply hL2
              simp only [L28_2, l28_2, ex,reduceIte,reduceCtorEq,Nat.reduceEqDiff,Nat.reduceLT,Nat.reduceLeDiff,Nat.reduceAdd,Nat.reduceSub,Nat.reduceMul,Int.reduceAdd,Int.reduceSub,Int.reduceMul,Int.reduceNeg,Int.reduceLE,Int.reduceLT,Int.reduceEq,Int.reduceToNat]
              apply shareL
              · intro share
                rcases Nat.lt_or_ge p (a.length - q) with c1 | c1
                · have h1 : decide ((p : Int) < (a.length : Int) - (q : Int)) = true := by simp; omega
                  rcases Nat.lt_or_ge p (b.length - q) with c2 | c2
                  · have h2 : decide ((p : Int) < (b.length : Int) - (q : Int)) = true := by simp; omega
                    have t1 : ((a.length : Int) - 1 - (p : Int)).toNat = a.length - 1 - p := by omega
                    have t2 : ((b.length : Int) - 1 - (p : Int)).toNat = b.length - 1 - p := by omega
                    have g1 : a[a.length - 1 - p]? = some (a[a.length - 1 - p]'(by omega)) := List.getElem?_eq_getElem _
                    have g2 : b[b.length - 1 - p]? = some (b[b.length - 1 - p]'(by omega)) := List.getElem?_eq_getElem _
                    have h3 : decide (a[a.length - 1 - p]'(by omega) = b[b.length - 1 - p]'(by omega)) = false := by simpa using hsend c1 c2 g1 g2
                    (try simp only [h1, h2, t1, t2, g1, g2, h3, ex,reduceIte,reduceCtorEq,Nat.reduceEqDiff,Nat.reduceLT,Nat.reduceLeDiff,Nat.reduceAdd,Nat.reduceSub,Nat.reduceMul,Int.reduceAdd,Int.reduceSub,Int.reduceMul,Int.reduceNeg,Int.reduceLE,Int.reduceLT,Int.reduceEq,Int.reduceToNat]) <;> repeat ((with_reducible refine Req.intro ?_ ?_); (first | omega | (simp <;> omega)); try simp only [h1, h2, t1, t2, g1, g2, h3, ex,reduceIte,reduceCtorEq,Nat.reduceEqDiff,Nat.reduceLT,Nat.reduceLeDiff,Nat.reduceAdd,Nat.reduceSub,Nat.reduceMul,Int.reduceAdd,Int.reduceSub,Int.reduceMul,Int.reduceNeg,Int.reduceLE,Int.reduceLT,Int.reduceEq,Int.reduceToNat])
                    exact share.out
                  · have h2 : decide ((p : Int) < (b.length : Int) - (q : Int)) = false := by simp; omega
                    (try simp only [h1, h2, ex,reduceIte,reduceCtorEq,Nat.reduceEqDiff,Nat.reduceLT,Nat.reduceLeDiff,Nat.reduceAdd,Nat.reduceSub,Nat.reduceMul,Int.reduceAdd,Int.reduceSub,Int.reduceMul,Int.reduceNeg,Int.reduceLE,Int.reduceLT,Int.reduceEq,Int.reduceToNat]) <;> repeat ((with_reducible refine Req.intro ?_ ?_); (first | omega | (simp <;> omega)); try simp only [h1, h2, ex,reduceIte,reduceCtorEq,Nat.reduceEqDiff,Nat.reduceLT,Nat.reduceLeDiff,Nat.reduceAdd,Nat.reduceSub,Nat.reduceMul,Int.reduceAdd,Int.reduceSub,Int.reduceMul,Int.reduceNeg,Int.reduceLE,Int.reduceLT,Int.reduceEq,Int.reduceToNat])
                    exact share.out
                · have h1 : decide ((p : Int) < (a.length : Int) - (q : Int)) = false := by simp; omega
                  (try simp only [h1, ex,reduceIte,reduceCtorEq,Nat.reduceEqDiff,Nat.reduceLT,Nat.reduceLeDiff,Nat.reduceAdd,Nat.reduceSub,Nat.reduceMul,Int.reduceAdd,Int.reduceSub,Int.reduceMul,Int.reduceNeg,Int.reduceLE,Int.reduceLT,Int.reduceEq,Int.reduceToNat]) <;> repeat ((with_reducible refine Req.intro ?_ ?_); (first | omega | (simp <;> omega)); try simp only [h1, ex,reduceIte,reduceCtorEq,Nat.reduceEqDiff,Nat.reduceLT,Nat.reduceLeDiff,Nat.reduceAdd,Nat.reduceSub,Nat.reduceMul,Int.reduceAdd,Int.reduceSub,Int.reduceMul,Int.reduceNeg,Int.reduceLE,Int.reduceLT,Int.reduceEq,Int.reduceToNat])
                  exact share.out
              · have eA : (a.length : Int) - (p : Int) = ((a2.length + q : Nat) : Int) := by omega
                have eB : (b.length : Int) - (p : Int) = ((b2.length + q : Nat) : Int) := by omega
                have hA2 : (a.take (a2.length + q)).drop q = a2 := by rw [show a2.length + q = a.length - p by omega]; exact hA0
                have hB2 : (b.take (b2.length + q)).drop q = b2 := by rw [show b2.length + q = b.length - p by omega]; exact hB0
                have k0 := hmid false false a2 b2 (by omega) (by omega) (by omega)
                rcases Nat.eq_zero_or_pos q with c1 | c1
                · have h1 : decide ((q : Int) > 0) = false := by simp; omega
                  rcases Classical.em (a2 = []) with e | e
                  · have h2 : decide ((a2.length : Int) > 0) = false := by rw [e]; decide
                    rcases Nat.eq_zero_or_pos p with c3 | c3
                    · have h9 : decide ((p : Int) > 0) = false := by simp; omega
                      (try simp only [h1, h2, h9, u1, u2, eA, eB, hA0, hB0, hA2, hB2, ex,reduceIte,reduceCtorEq,Nat.reduceEqDiff,Nat.reduceLT,Nat.reduceLeDiff,Nat.reduceAdd,Nat.reduceSub,Nat.reduceMul,Int.reduceAdd,Int.reduceSub,Int.reduceMul,Int.reduceNeg,Int.reduceLE,Int.reduceLT,Int.reduceEq,Int.reduceToNat]) <;> repeat ((with_reducible refine Req.intro ?_ ?_); (first | omega | (simp <;> omega)); try simp only [h1, h2, h9, u1, u2, eA, eB, hA0, hB0, hA2, hB2, ex,reduceIte,reduceCtorEq,Nat.reduceEqDiff,Nat.reduceLT,Nat.reduceLeDiff,Nat.reduceAdd,Nat.reduceSub,Nat.reduceMul,Int.reduceAdd,Int.reduceSub,Int.reduceMul,Int.reduceNeg,Int.reduceLE,Int.reduceLT,Int.reduceEq,Int.reduceToNat])
                      rw [if_neg (by omega : ¬ 0 < q), if_neg (by omega : ¬ 0 < p)]
                      rw [if_pos (.inl e)]
                      simp [rnV, shR, movR]
                    · have h9 : decide ((p : Int) > 0) = true := by simp; omega
                      (try simp only [h1, h2, h9, u1, u2, eA, eB, hA0, hB0, hA2, hB2, ex,reduceIte,reduceCtorEq,Nat.reduceEqDiff,Nat.reduceLT,Nat.reduceLeDiff,Nat.reduceAdd,Nat.reduceSub,Nat.reduceMul,Int.reduceAdd,Int.reduceSub,Int.reduceMul,Int.reduceNeg,Int.reduceLE,Int.reduceLT,Int.reduceEq,Int.reduceToNat]) <;> repeat ((with_reducible refine Req.intro ?_ ?_); (first | omega | (simp <;> omega)); try simp only [h1, h2, h9, u1, u2, eA, eB, hA0, hB0, hA2, hB2, ex,reduceIte,reduceCtorEq,Nat.reduceEqDiff,Nat.reduceLT,Nat.reduceLeDiff,Nat.reduceAdd,Nat.reduceSub,Nat.reduceMul,Int.reduceAdd,Int.reduceSub,Int.reduceMul,Int.reduceNeg,Int.reduceLE,Int.reduceLT,Int.reduceEq,Int.reduceToNat])
                      rw [if_neg (by omega : ¬ 0 < q), if_pos c3]
                      rw [if_pos (.inl e)]
                      simp [rnV, shR, movR]
                  rcases Classical.em (b2 = []) with e' | e'
                  · have l1 : 0 < a2.length := List.length_pos_iff.2 e
                    have h2 : decide ((a2.length : Int) > 0) = true := by simp; omega
                    have h3 : decide ((b2.length : Int) > 0) = false := by rw [e']; decide
                    rcases Nat.eq_zero_or_pos p with c3 | c3
                    · have h9 : decide ((p : Int) > 0) = false := by simp; omega
                      (try simp only [h1, h2, h3, h9, u1, u2, eA, eB, hA0, hB0, hA2, hB2, ex,reduceIte,reduceCtorEq,Nat.reduceEqDiff,Nat.reduceLT,Nat.reduceLeDiff,Nat.reduceAdd,Nat.reduceSub,Nat.reduceMul,Int.reduceAdd,Int.reduceSub,Int.reduceMul,Int.reduceNeg,Int.reduceLE,Int.reduceLT,Int.reduceEq,Int.reduceToNat]) <;> repeat ((with_reducible refine Req.intro ?_ ?_); (first | omega | (simp <;> omega)); try simp only [h1, h2, h3, h9, u1, u2, eA, eB, hA0, hB0, hA2, hB2, ex,reduceIte,reduceCtorEq,Nat.reduceEqDiff,Nat.reduceLT,Nat.reduceLeDiff,Nat.reduceAdd,Nat.reduceSub,Nat.reduceMul,Int.reduceAdd,Int.reduceSub,Int.reduceMul,Int.reduceNeg,Int.reduceLE,Int.reduceLT,Int.reduceEq,Int.reduceToNat])
                      rw [if_neg (by omega : ¬ 0 < q), if_neg (by omega : ¬ 0 < p)]
                      rw [if_pos (.inr e')]
                      simp [rnV, shR, movR]
                    · have h9 : decide ((p : Int) > 0) = true := by simp; omega
                      (try simp only [h1, h2, h3, h9, u1, u2, eA, eB, hA0, hB0, hA2, hB2, ex,reduceIte,reduceCtorEq,Nat.reduceEqDiff,Nat.reduceLT,Nat.reduceLeDiff,Nat.reduceAdd,Nat.reduceSub,Nat.reduceMul,Int.reduceAdd,Int.reduceSub,Int.reduceMul,Int.reduceNeg,Int.reduceLE,Int.reduceLT,Int.reduceEq,Int.reduceToNat]) <;> repeat ((with_reducible refine Req.intro ?_ ?_); (first | omega | (simp <;> omega)); try simp only [h1, h2, h3, h9, u1, u2, eA, eB, hA0, hB0, hA2, hB2, ex,reduceIte,reduceCtorEq,Nat.reduceEqDiff,Nat.reduceLT,Nat.reduceLeDiff,Nat.reduceAdd,Nat.reduceSub,Nat.reduceMul,Int.reduceAdd,Int.reduceSub,Int.reduceMul,Int.reduceNeg,Int.reduceLE,Int.reduceLT,Int.reduceEq,Int.reduceToNat])
                      rw [if_neg (by omega : ¬ 0 < q), if_pos c3]
                      rw [if_pos (.inr e')]
                      simp [rnV, shR, movR]
                  have l1 : 0 < a2.length := List.length_pos_iff.2 e
                  have l2 : 0 < b2.length := List.length_pos_iff.2 e'
                  have h2 : decide ((a2.length : Int) > 0) = true := by simp; omega
                  have h3 : decide ((b2.length : Int) > 0) = true := by simp; omega
                  have hne : ¬ (a2 = [] ∨ b2 = []) := fun h => h.elim e e'
                  rw [if_neg hne] at hml hmn ⊢
                  (try simp only [h1, h2, h3, u1, u2, hA0, hB0, hA2, hB2, ex,reduceIte,reduceCtorEq,Nat.reduceEqDiff,Nat.reduceLT,Nat.reduceLeDiff,Nat.reduceAdd,Nat.reduceSub,Nat.reduceMul,Int.reduceAdd,Int.reduceSub,Int.reduceMul,Int.reduceNeg,Int.reduceLE,Int.reduceLT,Int.reduceEq,Int.reduceToNat]) <;> repeat ((with_reducible refine Req.intro ?_ ?_); (first | omega | (simp <;> omega)); try simp only [h1, h2, h3, u1, u2, hA0, hB0, hA2, hB2, ex,reduceIte,reduceCtorEq,Nat.reduceEqDiff,Nat.reduceLT,Nat.reduceLeDiff,Nat.reduceAdd,Nat.reduceSub,Nat.reduceMul,Int.reduceAdd,Int.reduceSub,Int.reduceMul,Int.reduceNeg,Int.reduceLE,Int.reduceLT,Int.reduceEq,Int.reduceToNat])
                  refine CallA.eq rfl k0 rfl ?_
                  generalize (midz k a2 b2).filter nz = M at *
                  (try simp only [ex,reduceIte,reduceCtorEq,Nat.reduceEqDiff,Nat.reduceLT,Nat.reduceLeDiff,Nat.reduceAdd,Nat.reduceSub,Nat.reduceMul,Int.reduceAdd,Int.reduceSub,Int.reduceMul,Int.reduceNeg,Int.reduceLE,Int.reduceLT,Int.reduceEq,Int.reduceToNat]) <;> repeat ((with_reducible refine Req.intro ?_ ?_); (first | omega | (simp <;> omega)); try simp only [ex,reduceIte,reduceCtorEq,Nat.reduceEqDiff,Nat.reduceLT,Nat.reduceLeDiff,Nat.reduceAdd,Nat.reduceSub,Nat.reduceMul,Int.reduceAdd,Int.reduceSub,Int.reduceMul,Int.reduceNeg,Int.reduceLE,Int.reduceLT,Int.reduceEq,Int.reduceToNat])
                  refine CallA.eq rfl (moved_spec _ M q q (by omega) (fun x hx => by have := hml x hx; omega) (by omega) (by omega)) rfl ?_
                  (try simp only [ex,reduceIte,reduceCtorEq,Nat.reduceEqDiff,Nat.reduceLT,Nat.reduceLeDiff,Nat.reduceAdd,Nat.reduceSub,Nat.reduceMul,Int.reduceAdd,Int.reduceSub,Int.reduceMul,Int.reduceNeg,Int.reduceLE,Int.reduceLT,Int.reduceEq,Int.reduceToNat]) <;> repeat ((with_reducible refine Req.intro ?_ ?_); (first | omega | (simp <;> omega)); try simp only [ex,reduceIte,reduceCtorEq,Nat.reduceEqDiff,Nat.reduceLT,Nat.reduceLeDiff,Nat.reduceAdd,Nat.reduceSub,Nat.reduceMul,Int.reduceAdd,Int.reduceSub,Int.reduceMul,Int.reduceNeg,Int.reduceLE,Int.reduceLT,Int.reduceEq,Int.reduceToNat])
                  rcases Nat.eq_zero_or_pos p with c3 | c3
                  · have h9 : decide ((p : Int) > 0) = false := by simp; omega
                    (try simp only [h9, u1, u2, eA, eB, ex,reduceIte,reduceCtorEq,Nat.reduceEqDiff,Nat.reduceLT,Nat.reduceLeDiff,Nat.reduceAdd,Nat.reduceSub,Nat.reduceMul,Int.reduceAdd,Int.reduceSub,Int.reduceMul,Int.reduceNeg,Int.reduceLE,Int.reduceLT,Int.reduceEq,Int.reduceToNat]) <;> repeat ((with_reducible refine Req.intro ?_ ?_); (first | omega | (simp <;> omega)); try simp only [h9, u1, u2, eA, eB, ex,reduceIte,reduceCtorEq,Nat.reduceEqDiff,Nat.reduceLT,Nat.reduceLeDiff,Nat.reduceAdd,Nat.reduceSub,Nat.reduceMul,Int.reduceAdd,Int.reduceSub,Int.reduceMul,Int.reduceNeg,Int.reduceLE,Int.reduceLT,Int.reduceEq,Int.reduceToNat])
                    rw [if_neg (by omega : ¬ 0 < q), if_neg (by omega : ¬ 0 < p)]
                    simp [rnV, shR, movR]
                  · have h9 : decide ((p : Int) > 0) = true := by simp; omega
                    (try simp only [h9, u1, u2, eA, eB, ex,reduceIte,reduceCtorEq,Nat.reduceEqDiff,Nat.reduceLT,Nat.reduceLeDiff,Nat.reduceAdd,Nat.reduceSub,Nat.reduceMul,Int.reduceAdd,Int.reduceSub,Int.reduceMul,Int.reduceNeg,Int.reduceLE,Int.reduceLT,Int.reduceEq,Int.reduceToNat]) <;> repeat ((with_reducible refine Req.intro ?_ ?_); (first | omega | (simp <;> omega)); try simp only [h9, u1, u2, eA, eB, ex,reduceIte,reduceCtorEq,Nat.reduceEqDiff,Nat.reduceLT,Nat.reduceLeDiff,Nat.reduceAdd,Nat.reduceSub,Nat.reduceMul,Int.reduceAdd,Int.reduceSub,Int.reduceMul,Int.reduceNeg,Int.reduceLE,Int.reduceLT,Int.reduceEq,Int.reduceToNat])
                    rw [if_neg (by omega : ¬ 0 < q), if_pos c3]
                    simp [rnV, shR, movR]
                · have h1 : decide ((q : Int) > 0) = true := by simp; omega
                  rcases Classical.em (a2 = []) with e | e
                  · have h2 : decide ((a2.length : Int) > 0) = false := by rw [e]; decide
                    rcases Nat.eq_zero_or_pos p with c3 | c3
                    · have h9 : decide ((p : Int) > 0) = false := by simp; omega
                      (try simp only [h1, h2, h9, u1, u2, eA, eB, hA0, hB0, hA2, hB2, ex,reduceIte,reduceCtorEq,Nat.reduceEqDiff,Nat.reduceLT,Nat.reduceLeDiff,Nat.reduceAdd,Nat.reduceSub,Nat.reduceMul,Int.reduceAdd,Int.reduceSub,Int.reduceMul,Int.reduceNeg,Int.reduceLE,Int.reduceLT,Int.reduceEq,Int.reduceToNat]) <;> repeat ((with_reducible refine Req.intro ?_ ?_); (first | omega | (simp <;> omega)); try simp only [h1, h2, h9, u1, u2, eA, eB, hA0, hB0, hA2, hB2, ex,reduceIte,reduceCtorEq,Nat.reduceEqDiff,Nat.reduceLT,Nat.reduceLeDiff,Nat.reduceAdd,Nat.reduceSub,Nat.reduceMul,Int.reduceAdd,Int.reduceSub,Int.reduceMul,Int.reduceNeg,Int.reduceLE,Int.reduceLT,Int.reduceEq,Int.reduceToNat])
                      rw [if_pos c1, if_neg (by omega : ¬ 0 < p)]
                      rw [if_pos (.inl e)]
                      simp [rnV, shR, movR]
                    · have h9 : decide ((p : Int) > 0) = true := by simp; omega
                      (try simp only [h1, h2, h9, u1, u2, eA, eB, hA0, hB0, hA2, hB2, ex,reduceIte,reduceCtorEq,Nat.reduceEqDiff,Nat.reduceLT,Nat.reduceLeDiff,Nat.reduceAdd,Nat.reduceSub,Nat.reduceMul,Int.reduceAdd,Int.reduceSub,Int.reduceMul,Int.reduceNeg,Int.reduceLE,Int.reduceLT,Int.reduceEq,Int.reduceToNat]) <;> repeat ((with_reducible refine Req.intro ?_ ?_); (first | omega | (simp <;> omega)); try simp only [h1, h2, h9, u1, u2, eA, eB, hA0, hB0, hA2, hB2, ex,reduceIte,reduceCtorEq,Nat.reduceEqDiff,Nat.reduceLT,Nat.reduceLeDiff,Nat.reduceAdd,Nat.reduceSub,Nat.reduceMul,Int.reduceAdd,Int.reduceSub,Int.reduceMul,Int.reduceNeg,Int.reduceLE,Int.reduceLT,Int.reduceEq,Int.reduceToNat])
                      rw [if_pos c1, if_pos c3]
                      rw [if_pos (.inl e)]
                      simp [rnV, shR, movR]
                  rcases Classical.em (b2 = []) with e' | e'
                  · have l1 : 0 < a2.length := List.length_pos_iff.2 e
                    have h2 : decide ((a2.length : Int) > 0) = true := by simp; omega
                    have h3 : decide ((b2.length : Int) > 0) = false := by rw [e']; decide
                    rcases Nat.eq_zero_or_pos p with c3 | c3
                    · have h9 : decide ((p : Int) > 0) = false := by simp; omega
                      (try simp only [h1, h2, h3, h9, u1, u2, eA, eB, hA0, hB0, hA2, hB2, ex,reduceIte,reduceCtorEq,Nat.reduceEqDiff,Nat.reduceLT,Nat.reduceLeDiff,Nat.reduceAdd,Nat.reduceSub,Nat.reduceMul,Int.reduceAdd,Int.reduceSub,Int.reduceMul,Int.reduceNeg,Int.reduceLE,Int.reduceLT,Int.reduceEq,Int.reduceToNat]) <;> repeat ((with_reducible refine Req.intro ?_ ?_); (first | omega | (simp <;> omega)); try simp only [h1, h2, h3, h9, u1, u2, eA, eB, hA0, hB0, hA2, hB2, ex,reduceIte,reduceCtorEq,Nat.reduceEqDiff,Nat.reduceLT,Nat.reduceLeDiff,Nat.reduceAdd,Nat.reduceSub,Nat.reduceMul,Int.reduceAdd,Int.reduceSub,Int.reduceMul,Int.reduceNeg,Int.reduceLE,Int.reduceLT,Int.reduceEq,Int.reduceToNat])
                      rw [if_pos c1, if_neg (by omega : ¬ 0 < p)]
                      rw [if_pos (.inr e')]
                      simp [rnV, shR, movR]
                    · have h9 : decide ((p : Int) > 0) = true := by simp; omega
                      (try simp only [h1, h2, h3, h9, u1, u2, eA, eB, hA0, hB0, hA2, hB2, ex,reduceIte,reduceCtorEq,Nat.reduceEqDiff,Nat.reduceLT,Nat.reduceLeDiff,Nat.reduceAdd,Nat.reduceSub,Nat.reduceMul,Int.reduceAdd,Int.reduceSub,Int.reduceMul,Int.reduceNeg,Int.reduceLE,Int.reduceLT,Int.reduceEq,Int.reduceToNat]) <;> repeat ((with_reducible refine Req.intro ?_ ?_); (first | omega | (simp <;> omega)); try simp only [h1, h2, h3, h9, u1, u2, eA, eB, hA0, hB0, hA2, hB2, ex,reduceIte,reduceCtorEq,Nat.reduceEqDiff,Nat.reduceLT,Nat.reduceLeDiff,Nat.reduceAdd,Nat.reduceSub,Nat.reduceMul,Int.reduceAdd,Int.reduceSub,Int.reduceMul,Int.reduceNeg,Int.reduceLE,Int.reduceLT,Int.reduceEq,Int.reduceToNat])
                      rw [if_pos c1, if_pos c3]
                      rw [if_pos (.inr e')]
                      simp [rnV, shR, movR]
                  have l1 : 0 < a2.length := List.length_pos_iff.2 e
                  have l2 : 0 < b2.length := List.length_pos_iff.2 e'
                  have h2 : decide ((a2.length : Int) > 0) = true := by simp; omega
                  have h3 : decide ((b2.length : Int) > 0) = true := by simp; omega
                  have hne : ¬ (a2 = [] ∨ b2 = []) := fun h => h.elim e e'
                  rw [if_neg hne] at hml hmn ⊢
                  (try simp only [h1, h2, h3, u1, u2, hA0, hB0, hA2, hB2, ex,reduceIte,reduceCtorEq,Nat.reduceEqDiff,Nat.reduceLT,Nat.reduceLeDiff,Nat.reduceAdd,Nat.reduceSub,Nat.reduceMul,Int.reduceAdd,Int.reduceSub,Int.reduceMul,Int.reduceNeg,Int.reduceLE,Int.reduceLT,Int.reduceEq,Int.reduceToNat]) <;> repeat ((with_reducible refine Req.intro ?_ ?_); (first | omega | (simp <;> omega)); try simp only [h1, h2, h3, u1, u2, hA0, hB0, hA2, hB2, ex,reduceIte,reduceCtorEq,Nat.reduceEqDiff,Nat.reduceLT,Nat.reduceLeDiff,Nat.reduceAdd,Nat.reduceSub,Nat.reduceMul,Int.reduceAdd,Int.reduceSub,Int.reduceMul,Int.reduceNeg,Int.reduceLE,Int.reduceLT,Int.reduceEq,Int.reduceToNat])
                  refine CallA.eq rfl k0 rfl ?_
                  generalize (midz k a2 b2).filter nz = M at *
                  (try simp only [ex,reduceIte,reduceCtorEq,Nat.reduceEqDiff,Nat.reduceLT,Nat.reduceLeDiff,Nat.reduceAdd,Nat.reduceSub,Nat.reduceMul,Int.reduceAdd,Int.reduceSub,Int.reduceMul,Int.reduceNeg,Int.reduceLE,Int.reduceLT,Int.reduceEq,Int.reduceToNat]) <;> repeat ((with_reducible refine Req.intro ?_ ?_); (first | omega | (simp <;> omega)); try simp only [ex,reduceIte,reduceCtorEq,Nat.reduceEqDiff,Nat.reduceLT,Nat.reduceLeDiff,Nat.reduceAdd,Nat.reduceSub,Nat.reduceMul,Int.reduceAdd,Int.reduceSub,Int.reduceMul,Int.reduceNeg,Int.reduceLE,Int.reduceLT,Int.reduceEq,Int.reduceToNat])
                  refine CallA.eq rfl (moved_spec _ M q q (by omega) (fun x hx => by have := hml x hx; omega) (by omega) (by omega)) rfl ?_
                  (try simp only [ex,reduceIte,reduceCtorEq,Nat.reduceEqDiff,Nat.reduceLT,Nat.reduceLeDiff,Nat.reduceAdd,Nat.reduceSub,Nat.reduceMul,Int.reduceAdd,Int.reduceSub,Int.reduceMul,Int.reduceNeg,Int.reduceLE,Int.reduceLT,Int.reduceEq,Int.reduceToNat]) <;> repeat ((with_reducible refine Req.intro ?_ ?_); (first | omega | (simp <;> omega)); try simp only [ex,reduceIte,reduceCtorEq,Nat.reduceEqDiff,Nat.reduceLT,Nat.reduceLeDiff,Nat.reduceAdd,Nat.reduceSub,Nat.reduceMul,Int.reduceAdd,Int.reduceSub,Int.reduceMul,Int.reduceNeg,Int.reduceLE,Int.reduceLT,Int.reduceEq,Int.reduceToNat])
                  rcases Nat.eq_zero_or_pos p with c3 | c3
                  · have h9 : decide ((p : Int) > 0) = false := by simp; omega
                    (try simp only [h9, u1, u2, eA, eB, ex,reduceIte,reduceCtorEq,Nat.reduceEqDiff,Nat.reduceLT,Nat.reduceLeDiff,Nat.reduceAdd,Nat.reduceSub,Nat.reduceMul,Int.reduceAdd,Int.reduceSub,Int.reduceMul,Int.reduceNeg,Int.reduceLE,Int.reduceLT,Int.reduceEq,Int.reduceToNat]) <;> repeat ((with_reducible refine Req.intro ?_ ?_); (first | omega | (simp <;> omega)); try simp only [h9, u1, u2, eA, eB, ex,reduceIte,reduceCtorEq,Nat.reduceEqDiff,Nat.reduceLT,Nat.reduceLeDiff,Nat.reduceAdd,Nat.reduceSub,Nat.reduceMul,Int.reduceAdd,Int.reduceSub,Int.reduceMul,Int.reduceNeg,Int.reduceLE,Int.reduceLT,Int.reduceEq,Int.reduceToNat])
                    rw [if_pos c1, if_neg (by omega : ¬ 0 < p)]
                    simp [rnV, shR, movR]
                  · have h9 : decide ((p : Int) > 0) = true := by simp; omega
                    (try simp only [h9, u1, u2, eA, eB, ex,reduceIte,reduceCtorEq,Nat.reduceEqDiff,Nat.reduceLT,Nat.reduceLeDiff,Nat.reduceAdd,Nat.reduceSub,Nat.reduceMul,Int.reduceAdd,Int.reduceSub,Int.reduceMul,Int.reduceNeg,Int.reduceLE,Int.reduceLT,Int.reduceEq,Int.reduceToNat]) <;> repeat ((with_reducible refine Req.intro ?_ ?_); (first | omega | (simp <;> omega)); try simp only [h9, u1, u2, eA, eB, ex,reduceIte,reduceCtorEq,Nat.reduceEqDiff,Nat.reduceLT,Nat.reduceLeDiff,Nat.reduceAdd,Nat.reduceSub,Nat.reduceMul,Int.reduceAdd,Int.reduceSub,Int.reduceMul,Int.reduceNeg,Int.reduceLE,Int.reduceLT,Int.reduceEq,Int.reduceToNat])
                    rw [if_pos c1, if_pos c3]
                    simp [rnV, shR, movR]
          exact key2 m 0 (Nat.zero_add _)
    exact key1 p 0 (Nat.zero_add _)
end Go.Proofs.Ytmmcepbcjlopdaa.E.Hs

/- Fixed examples of chapter 9: run outright. Conditions: none. -/
namespace Go.Proofs.Ytmmcepbcjlopdaa.E.Hs
set_option linter.unusedVariables false
theorem lives_ev : evF tab 1000 9 0 [] [] 0 = some (.bool true, [], 2) := by kernel_rfl
theorem lives_spec : Run tab 9 0 [] [] 0 (fun r _ _ => r = .bool true) :=
  (run_ev 1000 lives_ev).weaken fun r h n hh => hh.1
end Go.Proofs.Ytmmcepbcjlopdaa.E.Hs

/- The law HistoScripts: both scripts are one. Conditions: none. -/
namespace Go.Proofs.Ytmmcepbcjlopdaa.E.Hs
set_option linter.unusedVariables false
set_option linter.unusedSimpArgs false
set_option maxHeartbeats 20000000
set_option maxRecDepth 100000

theorem scriptE_small (a b : List S) (ha : a.length ≤ 4096) (hb : b.length ≤ 4096) : (scriptE a b).length ≤ 1000000 := by
  have h1 := keptR_len a b ha hb
  have h2 : ∀ (l : List Rn) (i j : Nat), (edsOf a.length b.length l i j).length ≤ l.length + 1 := by
    intro l
    induction l with
    | nil => intro i j; unfold edsOf gap; split <;> simp
    | cons r l ih =>
      intro i j
      have := ih (r.A + r.N) (r.B + r.N)
      unfold edsOf gap
      split <;> (simp; omega)
  have := h2 (keptR a b) 0 0
  unfold scriptE; omega
theorem rscript_spec (o o' : Bool) (a b : List S) (ha : a.length ≤ 4096) (hb : b.length ≤ 4096) :
    Run tab 12 0 [.sl o 1 (a.map .str), .sl o' 1 (b.map .str)] [] 0 (fun r _ _ => r = .sl true 4 ((scriptE a b).map edV)) := by
  have hfit := (keptR_com a b ha hb).fit
  have hkl := keptR_len a b ha hb
  have hj := join_ok a.length b.length (keptR a b) []
  have hjl := join_len (keptR a b) []
  have hall := Com.fitall (keptR_com a b ha hb)
  unfold scriptE
  rw [List.nil_append] at hj
  rw [← hj.1]
  have hfj := hj.2 hfit
  refine enter (F := f12) rfl rfl ?_
  simp only [f12, ex,reduceIte,reduceCtorEq,Nat.reduceEqDiff,Nat.reduceLT,Nat.reduceLeDiff,Nat.reduceAdd,Nat.reduceSub,Nat.reduceMul,Int.reduceAdd,Int.reduceSub,Int.reduceMul,Int.reduceNeg,Int.reduceLE,Int.reduceLT,Int.reduceEq,Int.reduceToNat]
  (try simp only [ex,reduceIte,reduceCtorEq,Nat.reduceEqDiff,Nat.reduceLT,Nat.reduceLeDiff,Nat.reduceAdd,Nat.reduceSub,Nat.reduceMul,Int.reduceAdd,Int.reduceSub,Int.reduceMul,Int.reduceNeg,Int.reduceLE,Int.reduceLT,Int.reduceEq,Int.reduceToNat]) <;> repeat ((with_reducible refine Req.intro ?_ ?_); (first | omega | (simp <;> omega)); try simp only [ex,reduceIte,reduceCtorEq,Nat.reduceEqDiff,Nat.reduceLT,Nat.reduceLeDiff,Nat.reduceAdd,Nat.reduceSub,Nat.reduceMul,Int.reduceAdd,Int.reduceSub,Int.reduceMul,Int.reduceNeg,Int.reduceLE,Int.reduceLT,Int.reduceEq,Int.reduceToNat])
  refine CallA.eq rfl (rstay_spec (a.length + b.length + 1) _ _ a b ha hb (by omega)) rfl ?_
  have hk : (stz (a.length + b.length + 1) a b).filter nz = keptR a b := rfl
  rw [hk]
  generalize keptR a b = K at *
  (try simp only [ex,reduceIte,reduceCtorEq,Nat.reduceEqDiff,Nat.reduceLT,Nat.reduceLeDiff,Nat.reduceAdd,Nat.reduceSub,Nat.reduceMul,Int.reduceAdd,Int.reduceSub,Int.reduceMul,Int.reduceNeg,Int.reduceLE,Int.reduceLT,Int.reduceEq,Int.reduceToNat]) <;> repeat ((with_reducible refine Req.intro ?_ ?_); (first | omega | (simp <;> omega)); try simp only [ex,reduceIte,reduceCtorEq,Nat.reduceEqDiff,Nat.reduceLT,Nat.reduceLeDiff,Nat.reduceAdd,Nat.reduceSub,Nat.reduceMul,Int.reduceAdd,Int.reduceSub,Int.reduceMul,Int.reduceNeg,Int.reduceLE,Int.reduceLT,Int.reduceEq,Int.reduceToNat])
  refine CallA.eq rfl (joined_spec _ K (by omega) (fun r hr => by have := hall r hr; omega)) rfl ?_
  simp only [List.length_nil] at hjl
  generalize K.foldl jstep [] = J at *
  (try simp only [ex,reduceIte,reduceCtorEq,Nat.reduceEqDiff,Nat.reduceLT,Nat.reduceLeDiff,Nat.reduceAdd,Nat.reduceSub,Nat.reduceMul,Int.reduceAdd,Int.reduceSub,Int.reduceMul,Int.reduceNeg,Int.reduceLE,Int.reduceLT,Int.reduceEq,Int.reduceToNat]) <;> repeat ((with_reducible refine Req.intro ?_ ?_); (first | omega | (simp <;> omega)); try simp only [ex,reduceIte,reduceCtorEq,Nat.reduceEqDiff,Nat.reduceLT,Nat.reduceLeDiff,Nat.reduceAdd,Nat.reduceSub,Nat.reduceMul,Int.reduceAdd,Int.reduceSub,Int.reduceMul,Int.reduceNeg,Int.reduceLE,Int.reduceLT,Int.reduceEq,Int.reduceToNat])
  refine CallA.eq rfl (of_spec _ J a.length b.length hfj (by omega) (by omega) (by omega)) rfl ?_
  (try simp only [ex,reduceIte,reduceCtorEq,Nat.reduceEqDiff,Nat.reduceLT,Nat.reduceLeDiff,Nat.reduceAdd,Nat.reduceSub,Nat.reduceMul,Int.reduceAdd,Int.reduceSub,Int.reduceMul,Int.reduceNeg,Int.reduceLE,Int.reduceLT,Int.reduceEq,Int.reduceToNat]) <;> repeat ((with_reducible refine Req.intro ?_ ?_); (first | omega | (simp <;> omega)); try simp only [ex,reduceIte,reduceCtorEq,Nat.reduceEqDiff,Nat.reduceLT,Nat.reduceLeDiff,Nat.reduceAdd,Nat.reduceSub,Nat.reduceMul,Int.reduceAdd,Int.reduceSub,Int.reduceMul,Int.reduceNeg,Int.reduceLE,Int.reduceLT,Int.reduceEq,Int.reduceToNat])
theorem small_len2 {a : List S} (h : small a = true) : a.length ≤ 100 := by
  unfold small at h
  simp only [Bool.and_eq_true, decide_eq_true_iff] at h
  exact h.1
theorem law_HistoScripts (a b : List S) (ha : a.length ≤ 17592186044416) (hb : b.length ≤ 17592186044416) : Run tab 3 0 [.sl false 1 (a.map .str), .sl false 1 (b.map .str)] [] 0 (fun r _ _ => r = .bool true) := by
  refine enter (F := f3) rfl rfl ?_
  simp only [f3, ex,reduceIte,reduceCtorEq,Nat.reduceEqDiff,Nat.reduceLT,Nat.reduceLeDiff,Nat.reduceAdd,Nat.reduceSub,Nat.reduceMul,Int.reduceAdd,Int.reduceSub,Int.reduceMul,Int.reduceNeg,Int.reduceLE,Int.reduceLT,Int.reduceEq,Int.reduceToNat]
  (try simp only [ex,reduceIte,reduceCtorEq,Nat.reduceEqDiff,Nat.reduceLT,Nat.reduceLeDiff,Nat.reduceAdd,Nat.reduceSub,Nat.reduceMul,Int.reduceAdd,Int.reduceSub,Int.reduceMul,Int.reduceNeg,Int.reduceLE,Int.reduceLT,Int.reduceEq,Int.reduceToNat]) <;> repeat ((with_reducible refine Req.intro ?_ ?_); (first | omega | (simp <;> omega)); try simp only [ex,reduceIte,reduceCtorEq,Nat.reduceEqDiff,Nat.reduceLT,Nat.reduceLeDiff,Nat.reduceAdd,Nat.reduceSub,Nat.reduceMul,Int.reduceAdd,Int.reduceSub,Int.reduceMul,Int.reduceNeg,Int.reduceLE,Int.reduceLT,Int.reduceEq,Int.reduceToNat])
  refine CallA.eq rfl (small_spec _ a ha) rfl ?_
  (try simp only [ex,reduceIte,reduceCtorEq,Nat.reduceEqDiff,Nat.reduceLT,Nat.reduceLeDiff,Nat.reduceAdd,Nat.reduceSub,Nat.reduceMul,Int.reduceAdd,Int.reduceSub,Int.reduceMul,Int.reduceNeg,Int.reduceLE,Int.reduceLT,Int.reduceEq,Int.reduceToNat]) <;> repeat ((with_reducible refine Req.intro ?_ ?_); (first | omega | (simp <;> omega)); try simp only [ex,reduceIte,reduceCtorEq,Nat.reduceEqDiff,Nat.reduceLT,Nat.reduceLeDiff,Nat.reduceAdd,Nat.reduceSub,Nat.reduceMul,Int.reduceAdd,Int.reduceSub,Int.reduceMul,Int.reduceNeg,Int.reduceLE,Int.reduceLT,Int.reduceEq,Int.reduceToNat])
  apply shareL
  · intro share
    refine ifB.intro (fun h1 => ?_) (fun h1 => ?_)
    · (try simp only [h1, ex,reduceIte,reduceCtorEq,Nat.reduceEqDiff,Nat.reduceLT,Nat.reduceLeDiff,Nat.reduceAdd,Nat.reduceSub,Nat.reduceMul,Int.reduceAdd,Int.reduceSub,Int.reduceMul,Int.reduceNeg,Int.reduceLE,Int.reduceLT,Int.reduceEq,Int.reduceToNat]) <;> repeat ((with_reducible refine Req.intro ?_ ?_); (first | omega | (simp <;> omega)); try simp only [h1, ex,reduceIte,reduceCtorEq,Nat.reduceEqDiff,Nat.reduceLT,Nat.reduceLeDiff,Nat.reduceAdd,Nat.reduceSub,Nat.reduceMul,Int.reduceAdd,Int.reduceSub,Int.reduceMul,Int.reduceNeg,Int.reduceLE,Int.reduceLT,Int.reduceEq,Int.reduceToNat])
      refine CallA.eq rfl (small_spec _ b hb) rfl ?_
      (try simp only [h1, ex,reduceIte,reduceCtorEq,Nat.reduceEqDiff,Nat.reduceLT,Nat.reduceLeDiff,Nat.reduceAdd,Nat.reduceSub,Nat.reduceMul,Int.reduceAdd,Int.reduceSub,Int.reduceMul,Int.reduceNeg,Int.reduceLE,Int.reduceLT,Int.reduceEq,Int.reduceToNat]) <;> repeat ((with_reducible refine Req.intro ?_ ?_); (first | omega | (simp <;> omega)); try simp only [h1, ex,reduceIte,reduceCtorEq,Nat.reduceEqDiff,Nat.reduceLT,Nat.reduceLeDiff,Nat.reduceAdd,Nat.reduceSub,Nat.reduceMul,Int.reduceAdd,Int.reduceSub,Int.reduceMul,Int.reduceNeg,Int.reduceLE,Int.reduceLT,Int.reduceEq,Int.reduceToNat])
      refine ifB.intro (fun h2 => ?_) (fun h2 => ?_)
      · (try simp only [ex,reduceIte,reduceCtorEq,Nat.reduceEqDiff,Nat.reduceLT,Nat.reduceLeDiff,Nat.reduceAdd,Nat.reduceSub,Nat.reduceMul,Int.reduceAdd,Int.reduceSub,Int.reduceMul,Int.reduceNeg,Int.reduceLE,Int.reduceLT,Int.reduceEq,Int.reduceToNat]) <;> repeat ((with_reducible refine Req.intro ?_ ?_); (first | omega | (simp <;> omega)); try simp only [ex,reduceIte,reduceCtorEq,Nat.reduceEqDiff,Nat.reduceLT,Nat.reduceLeDiff,Nat.reduceAdd,Nat.reduceSub,Nat.reduceMul,Int.reduceAdd,Int.reduceSub,Int.reduceMul,Int.reduceNeg,Int.reduceLE,Int.reduceLT,Int.reduceEq,Int.reduceToNat])
        have l1 := small_len2 h1
        have l2 := small_len2 h2
        refine CallA.eq rfl lives_spec rfl ?_
        (try simp only [ex,reduceIte,reduceCtorEq,Nat.reduceEqDiff,Nat.reduceLT,Nat.reduceLeDiff,Nat.reduceAdd,Nat.reduceSub,Nat.reduceMul,Int.reduceAdd,Int.reduceSub,Int.reduceMul,Int.reduceNeg,Int.reduceLE,Int.reduceLT,Int.reduceEq,Int.reduceToNat]) <;> repeat ((with_reducible refine Req.intro ?_ ?_); (first | omega | (simp <;> omega)); try simp only [ex,reduceIte,reduceCtorEq,Nat.reduceEqDiff,Nat.reduceLT,Nat.reduceLeDiff,Nat.reduceAdd,Nat.reduceSub,Nat.reduceMul,Int.reduceAdd,Int.reduceSub,Int.reduceMul,Int.reduceNeg,Int.reduceLE,Int.reduceLT,Int.reduceEq,Int.reduceToNat])
        refine CallA.eq rfl (script_spec _ _ a b (by omega) (by omega)) rfl ?_
        (try simp only [ex,reduceIte,reduceCtorEq,Nat.reduceEqDiff,Nat.reduceLT,Nat.reduceLeDiff,Nat.reduceAdd,Nat.reduceSub,Nat.reduceMul,Int.reduceAdd,Int.reduceSub,Int.reduceMul,Int.reduceNeg,Int.reduceLE,Int.reduceLT,Int.reduceEq,Int.reduceToNat]) <;> repeat ((with_reducible refine Req.intro ?_ ?_); (first | omega | (simp <;> omega)); try simp only [ex,reduceIte,reduceCtorEq,Nat.reduceEqDiff,Nat.reduceLT,Nat.reduceLeDiff,Nat.reduceAdd,Nat.reduceSub,Nat.reduceMul,Int.reduceAdd,Int.reduceSub,Int.reduceMul,Int.reduceNeg,Int.reduceLE,Int.reduceLT,Int.reduceEq,Int.reduceToNat])
        refine CallA.eq rfl (rscript_spec _ _ a b (by omega) (by omega)) rfl ?_
        (try simp only [ex,reduceIte,reduceCtorEq,Nat.reduceEqDiff,Nat.reduceLT,Nat.reduceLeDiff,Nat.reduceAdd,Nat.reduceSub,Nat.reduceMul,Int.reduceAdd,Int.reduceSub,Int.reduceMul,Int.reduceNeg,Int.reduceLE,Int.reduceLT,Int.reduceEq,Int.reduceToNat]) <;> repeat ((with_reducible refine Req.intro ?_ ?_); (first | omega | (simp <;> omega)); try simp only [ex,reduceIte,reduceCtorEq,Nat.reduceEqDiff,Nat.reduceLT,Nat.reduceLeDiff,Nat.reduceAdd,Nat.reduceSub,Nat.reduceMul,Int.reduceAdd,Int.reduceSub,Int.reduceMul,Int.reduceNeg,Int.reduceLE,Int.reduceLT,Int.reduceEq,Int.reduceToNat])
        refine CallA.eq rfl (sameE_spec _ _ _ (scriptE_small a b (by omega) (by omega))) rfl ?_
        (try simp only [ex,reduceIte,reduceCtorEq,Nat.reduceEqDiff,Nat.reduceLT,Nat.reduceLeDiff,Nat.reduceAdd,Nat.reduceSub,Nat.reduceMul,Int.reduceAdd,Int.reduceSub,Int.reduceMul,Int.reduceNeg,Int.reduceLE,Int.reduceLT,Int.reduceEq,Int.reduceToNat]) <;> repeat ((with_reducible refine Req.intro ?_ ?_); (first | omega | (simp <;> omega)); try simp only [ex,reduceIte,reduceCtorEq,Nat.reduceEqDiff,Nat.reduceLT,Nat.reduceLeDiff,Nat.reduceAdd,Nat.reduceSub,Nat.reduceMul,Int.reduceAdd,Int.reduceSub,Int.reduceMul,Int.reduceNeg,Int.reduceLE,Int.reduceLT,Int.reduceEq,Int.reduceToNat])
      · (try simp only [ex,reduceIte,reduceCtorEq,Nat.reduceEqDiff,Nat.reduceLT,Nat.reduceLeDiff,Nat.reduceAdd,Nat.reduceSub,Nat.reduceMul,Int.reduceAdd,Int.reduceSub,Int.reduceMul,Int.reduceNeg,Int.reduceLE,Int.reduceLT,Int.reduceEq,Int.reduceToNat]) <;> repeat ((with_reducible refine Req.intro ?_ ?_); (first | omega | (simp <;> omega)); try simp only [ex,reduceIte,reduceCtorEq,Nat.reduceEqDiff,Nat.reduceLT,Nat.reduceLeDiff,Nat.reduceAdd,Nat.reduceSub,Nat.reduceMul,Int.reduceAdd,Int.reduceSub,Int.reduceMul,Int.reduceNeg,Int.reduceLE,Int.reduceLT,Int.reduceEq,Int.reduceToNat])
        exact share.out
    · (try simp only [h1, ex,reduceIte,reduceCtorEq,Nat.reduceEqDiff,Nat.reduceLT,Nat.reduceLeDiff,Nat.reduceAdd,Nat.reduceSub,Nat.reduceMul,Int.reduceAdd,Int.reduceSub,Int.reduceMul,Int.reduceNeg,Int.reduceLE,Int.reduceLT,Int.reduceEq,Int.reduceToNat]) <;> repeat ((with_reducible refine Req.intro ?_ ?_); (first | omega | (simp <;> omega)); try simp only [h1, ex,reduceIte,reduceCtorEq,Nat.reduceEqDiff,Nat.reduceLT,Nat.reduceLeDiff,Nat.reduceAdd,Nat.reduceSub,Nat.reduceMul,Int.reduceAdd,Int.reduceSub,Int.reduceMul,Int.reduceNeg,Int.reduceLE,Int.reduceLT,Int.reduceEq,Int.reduceToNat])
      exact share.out
  · refine CallA.eq rfl lives_spec rfl ?_
    (try simp only [ex,reduceIte,reduceCtorEq,Nat.reduceEqDiff,Nat.reduceLT,Nat.reduceLeDiff,Nat.reduceAdd,Nat.reduceSub,Nat.reduceMul,Int.reduceAdd,Int.reduceSub,Int.reduceMul,Int.reduceNeg,Int.reduceLE,Int.reduceLT,Int.reduceEq,Int.reduceToNat]) <;> repeat ((with_reducible refine Req.intro ?_ ?_); (first | omega | (simp <;> omega)); try simp only [ex,reduceIte,reduceCtorEq,Nat.reduceEqDiff,Nat.reduceLT,Nat.reduceLeDiff,Nat.reduceAdd,Nat.reduceSub,Nat.reduceMul,Int.reduceAdd,Int.reduceSub,Int.reduceMul,Int.reduceNeg,Int.reduceLE,Int.reduceLT,Int.reduceEq,Int.reduceToNat])
end Go.Proofs.Ytmmcepbcjlopdaa.E.Hs
