/- What the functions compute, and the law SimilBest in plain lists: part 1. Conditions: none. -/
import Derived.KernelRfl
import Derived.Test.YthphnacnjbcpiaaFSimilBest
/- Lines of a text: lines.Split and graftageref05.Split. Conditions: none. -/
namespace Go.Proofs.Ythphnacnjbcpiaa.E.Hs
set_option linter.unusedVariables false
set_option linter.unusedSimpArgs false
set_option maxHeartbeats 20000000
set_option maxRecDepth 100000

abbrev Sx := List UInt8
/-- The lines, the bytes 'cur' ahead. -/
def lnG (cur : Sx) : Sx → List Sx
  | [] => if cur = [] then [] else [cur]
  | c :: s => if c = 10 then (cur ++ [c]) :: lnG [] s else lnG (cur ++ [c]) s
def lns (s : Sx) : List Sx := lnG [] s
theorem lnG_none : ∀ (s cur : Sx), Lib.indexByte s 10 = -1 → lnG cur s = if cur ++ s = [] then [] else [cur ++ s]
  | [], cur, h => by simp [lnG]
  | c :: s, cur, h => by
    unfold Lib.indexByte at h
    rw [lnG]
    by_cases e : c = 10
    · subst e; simp at h
    · rw [if_neg e, lnG_none s (cur ++ [c])]
      · simp
      · rw [if_neg (by simpa using e)] at h
        by_cases k : Lib.indexByte s 10 = -1
        · exact k
        · rw [if_neg (by simpa using k)] at h
          have := Lib.indexByte_ge s 10
          omega
theorem lnG_some : ∀ (s cur : Sx) (k : Nat), Lib.indexByte s 10 = (k : Int) → k < s.length ∧ lnG cur s = (cur ++ s.take (k + 1)) :: lns (s.drop (k + 1))
  | [], cur, k, h => by unfold Lib.indexByte at h; omega
  | c :: s, cur, k, h => by
    unfold Lib.indexByte at h
    rw [lnG]
    by_cases e : c = 10
    · subst e
      simp at h
      have : k = 0 := by omega
      subst this
      simp [lns]
    · rw [if_neg (by simpa using e)] at h
      by_cases q : Lib.indexByte s 10 = -1
      · rw [if_pos (by simpa using q)] at h; omega
      · rw [if_neg (by simpa using q)] at h
        have := Lib.indexByte_ge s 10
        have ih := lnG_some s (cur ++ [c]) (k - 1) (by omega)
        have hk : 0 < k := by omega
        rw [if_neg e, ih.2]
        refine ⟨by simp; omega, ?_⟩
        rw [show k = k - 1 + 1 by omega]
        simp
theorem lnG_len : ∀ (s cur : Sx), (lnG cur s).length ≤ s.length + 1
  | [], cur => by unfold lnG; split <;> simp
  | c :: s, cur => by
    unfold lnG
    split
    · have := lnG_len s []; simp; omega
    · have := lnG_len s (cur ++ [c]); simp; omega

theorem index_spec (s : Sx) : Run tab 30 0 [.str s, .str [10]] [] 0 (fun r _ _ => r = .int .i64 (Lib.indexByte s 10)) :=
  (run_ext (q := (.int .i64 (Lib.indexByte s 10), [], 0)) rfl).weaken fun _ _ _ h => h.1
theorem split_spec (s : Sx) (hs : s.length ≤ 1000000) : Run tab 28 0 [.str s] [] 0 (fun r _ _ => r = .sl true 1 ((lns s).map .str)) := by
  refine enter (F := f28) rfl rfl ?_
  simp only [f28, ex,reduceIte,reduceCtorEq,Nat.reduceEqDiff,Nat.reduceLT,Nat.reduceLeDiff,Nat.reduceAdd,Nat.reduceSub,Nat.reduceMul,Int.reduceAdd,Int.reduceSub,Int.reduceMul,Int.reduceNeg,Int.reduceLE,Int.reduceLT,Int.reduceEq,Int.reduceToNat]
  (try simp only [ex,reduceIte,reduceCtorEq,Nat.reduceEqDiff,Nat.reduceLT,Nat.reduceLeDiff,Nat.reduceAdd,Nat.reduceSub,Nat.reduceMul,Int.reduceAdd,Int.reduceSub,Int.reduceMul,Int.reduceNeg,Int.reduceLE,Int.reduceLT,Int.reduceEq,Int.reduceToNat]) <;> repeat ((with_reducible refine Req.intro ?_ ?_); (first | omega | (simp <;> omega)); try simp only [ex,reduceIte,reduceCtorEq,Nat.reduceEqDiff,Nat.reduceLT,Nat.reduceLeDiff,Nat.reduceAdd,Nat.reduceSub,Nat.reduceMul,Int.reduceAdd,Int.reduceSub,Int.reduceMul,Int.reduceNeg,Int.reduceLE,Int.reduceLT,Int.reduceEq,Int.reduceToNat])
  refine loopI fun L hL => ?_
  (try simp only [ex,reduceIte,reduceCtorEq,Nat.reduceEqDiff,Nat.reduceLT,Nat.reduceLeDiff,Nat.reduceAdd,Nat.reduceSub,Nat.reduceMul,Int.reduceAdd,Int.reduceSub,Int.reduceMul,Int.reduceNeg,Int.reduceLE,Int.reduceLT,Int.reduceEq,Int.reduceToNat]) <;> repeat ((with_reducible refine Req.intro ?_ ?_); (first | omega | (simp <;> omega)); try simp only [ex,reduceIte,reduceCtorEq,Nat.reduceEqDiff,Nat.reduceLT,Nat.reduceLeDiff,Nat.reduceAdd,Nat.reduceSub,Nat.reduceMul,Int.reduceAdd,Int.reduceSub,Int.reduceMul,Int.reduceNeg,Int.reduceLE,Int.reduceLT,Int.reduceEq,Int.reduceToNat])
  have key : ∀ (m : Nat) (t : Sx) (out : List Sx), t.length ≤ m → out.length + t.length ≤ s.length → out ++ lns t = lns s → L (L28_1 (.str t) (.sl true 1 (out.map .str)) [] 0) := by
    intro m
    induction m with
    | zero =>
      intro t out ht ho he
      have ht0 : t = [] := List.eq_nil_of_length_eq_zero (by omega)
      subst ht0
      have he : out = lns s := by rw [← he]; simp [lns, lnG]
      apply hL
      simp only [L28_1, l28_1, ex,reduceIte,reduceCtorEq,Nat.reduceEqDiff,Nat.reduceLT,Nat.reduceLeDiff,Nat.reduceAdd,Nat.reduceSub,Nat.reduceMul,Int.reduceAdd,Int.reduceSub,Int.reduceMul,Int.reduceNeg,Int.reduceLE,Int.reduceLT,Int.reduceEq,Int.reduceToNat]
      (try simp only [ex,reduceIte,reduceCtorEq,Nat.reduceEqDiff,Nat.reduceLT,Nat.reduceLeDiff,Nat.reduceAdd,Nat.reduceSub,Nat.reduceMul,Int.reduceAdd,Int.reduceSub,Int.reduceMul,Int.reduceNeg,Int.reduceLE,Int.reduceLT,Int.reduceEq,Int.reduceToNat]) <;> repeat ((with_reducible refine Req.intro ?_ ?_); (first | omega | (simp <;> omega)); try simp only [ex,reduceIte,reduceCtorEq,Nat.reduceEqDiff,Nat.reduceLT,Nat.reduceLeDiff,Nat.reduceAdd,Nat.reduceSub,Nat.reduceMul,Int.reduceAdd,Int.reduceSub,Int.reduceMul,Int.reduceNeg,Int.reduceLE,Int.reduceLT,Int.reduceEq,Int.reduceToNat])
      rw [he]
    | succ m ih =>
      intro t out ht ho he
      rcases Classical.em (t = []) with e | e
      · subst e
        have he : out = lns s := by rw [← he]; simp [lns, lnG]
        apply hL
        simp only [L28_1, l28_1, ex,reduceIte,reduceCtorEq,Nat.reduceEqDiff,Nat.reduceLT,Nat.reduceLeDiff,Nat.reduceAdd,Nat.reduceSub,Nat.reduceMul,Int.reduceAdd,Int.reduceSub,Int.reduceMul,Int.reduceNeg,Int.reduceLE,Int.reduceLT,Int.reduceEq,Int.reduceToNat]
        (try simp only [ex,reduceIte,reduceCtorEq,Nat.reduceEqDiff,Nat.reduceLT,Nat.reduceLeDiff,Nat.reduceAdd,Nat.reduceSub,Nat.reduceMul,Int.reduceAdd,Int.reduceSub,Int.reduceMul,Int.reduceNeg,Int.reduceLE,Int.reduceLT,Int.reduceEq,Int.reduceToNat]) <;> repeat ((with_reducible refine Req.intro ?_ ?_); (first | omega | (simp <;> omega)); try simp only [ex,reduceIte,reduceCtorEq,Nat.reduceEqDiff,Nat.reduceLT,Nat.reduceLeDiff,Nat.reduceAdd,Nat.reduceSub,Nat.reduceMul,Int.reduceAdd,Int.reduceSub,Int.reduceMul,Int.reduceNeg,Int.reduceLE,Int.reduceLT,Int.reduceEq,Int.reduceToNat])
        rw [he]
      · have hl : 0 < t.length := List.length_pos_iff.2 e
        have h1 : decide (t ≠ []) = true := by simpa using e
        have h2 : decide (t = []) = false := by simpa using e
        rcases Classical.em (Lib.indexByte t 10 = -1) with q | q
        · have hn := lnG_none t [] q
          rw [List.nil_append, if_neg e] at hn
          have h9 := ih [] (out ++ [t]) (by simp) (by simp; omega) (by rw [← he]; show out ++ [t] ++ lnG [] [] = out ++ lnG [] t; rw [hn]; simp [lnG])
          rw [List.map_append] at h9
          have d1 : decide ((-1 : Int) + 1 = 0) = true := by decide
          have d2 : decide ((0 : Int) = 0) = true := by decide
          apply hL
          simp only [L28_1, l28_1, ex,reduceIte,reduceCtorEq,Nat.reduceEqDiff,Nat.reduceLT,Nat.reduceLeDiff,Nat.reduceAdd,Nat.reduceSub,Nat.reduceMul,Int.reduceAdd,Int.reduceSub,Int.reduceMul,Int.reduceNeg,Int.reduceLE,Int.reduceLT,Int.reduceEq,Int.reduceToNat]
          (try simp only [h1, h2, ex,reduceIte,reduceCtorEq,Nat.reduceEqDiff,Nat.reduceLT,Nat.reduceLeDiff,Nat.reduceAdd,Nat.reduceSub,Nat.reduceMul,Int.reduceAdd,Int.reduceSub,Int.reduceMul,Int.reduceNeg,Int.reduceLE,Int.reduceLT,Int.reduceEq,Int.reduceToNat]) <;> repeat ((with_reducible refine Req.intro ?_ ?_); (first | omega | (simp <;> omega)); try simp only [h1, h2, ex,reduceIte,reduceCtorEq,Nat.reduceEqDiff,Nat.reduceLT,Nat.reduceLeDiff,Nat.reduceAdd,Nat.reduceSub,Nat.reduceMul,Int.reduceAdd,Int.reduceSub,Int.reduceMul,Int.reduceNeg,Int.reduceLE,Int.reduceLT,Int.reduceEq,Int.reduceToNat])
          refine CallA.eq rfl (index_spec t) rfl ?_
          rw [q]
          have dl : t.drop t.length = [] := List.drop_length
          have tl : t.take t.length = t := List.take_length
          (try simp only [d1, d2, dl, tl, ex,reduceIte,reduceCtorEq,Nat.reduceEqDiff,Nat.reduceLT,Nat.reduceLeDiff,Nat.reduceAdd,Nat.reduceSub,Nat.reduceMul,Int.reduceAdd,Int.reduceSub,Int.reduceMul,Int.reduceNeg,Int.reduceLE,Int.reduceLT,Int.reduceEq,Int.reduceToNat]) <;> repeat ((with_reducible refine Req.intro ?_ ?_); (first | omega | (simp <;> omega)); try simp only [d1, d2, dl, tl, ex,reduceIte,reduceCtorEq,Nat.reduceEqDiff,Nat.reduceLT,Nat.reduceLeDiff,Nat.reduceAdd,Nat.reduceSub,Nat.reduceMul,Int.reduceAdd,Int.reduceSub,Int.reduceMul,Int.reduceNeg,Int.reduceLE,Int.reduceLT,Int.reduceEq,Int.reduceToNat])
          exact h9
        · have hge := Lib.indexByte_ge t 10
          obtain ⟨k, hk⟩ : ∃ k : Nat, Lib.indexByte t 10 = (k : Int) := ⟨(Lib.indexByte t 10).toNat, by omega⟩
          have hn := lnG_some t [] k hk
          rw [List.nil_append] at hn
          have h9 := ih (t.drop (k + 1)) (out ++ [t.take (k + 1)]) (by simp; omega) (by simp; omega) (by rw [← he, show lns t = _ from hn.2]; simp)
          rw [List.map_append] at h9
          have d1 : decide ((k : Int) + 1 = 0) = false := by simp; omega
          have t1 : ((k : Int) + 1).toNat = k + 1 := by omega
          have hkl := hn.1
          apply hL
          simp only [L28_1, l28_1, ex,reduceIte,reduceCtorEq,Nat.reduceEqDiff,Nat.reduceLT,Nat.reduceLeDiff,Nat.reduceAdd,Nat.reduceSub,Nat.reduceMul,Int.reduceAdd,Int.reduceSub,Int.reduceMul,Int.reduceNeg,Int.reduceLE,Int.reduceLT,Int.reduceEq,Int.reduceToNat]
          (try simp only [h1, h2, ex,reduceIte,reduceCtorEq,Nat.reduceEqDiff,Nat.reduceLT,Nat.reduceLeDiff,Nat.reduceAdd,Nat.reduceSub,Nat.reduceMul,Int.reduceAdd,Int.reduceSub,Int.reduceMul,Int.reduceNeg,Int.reduceLE,Int.reduceLT,Int.reduceEq,Int.reduceToNat]) <;> repeat ((with_reducible refine Req.intro ?_ ?_); (first | omega | (simp <;> omega)); try simp only [h1, h2, ex,reduceIte,reduceCtorEq,Nat.reduceEqDiff,Nat.reduceLT,Nat.reduceLeDiff,Nat.reduceAdd,Nat.reduceSub,Nat.reduceMul,Int.reduceAdd,Int.reduceSub,Int.reduceMul,Int.reduceNeg,Int.reduceLE,Int.reduceLT,Int.reduceEq,Int.reduceToNat])
          refine CallA.eq rfl (index_spec t) rfl ?_
          rw [hk]
          (try simp only [d1, t1, ex,reduceIte,reduceCtorEq,Nat.reduceEqDiff,Nat.reduceLT,Nat.reduceLeDiff,Nat.reduceAdd,Nat.reduceSub,Nat.reduceMul,Int.reduceAdd,Int.reduceSub,Int.reduceMul,Int.reduceNeg,Int.reduceLE,Int.reduceLT,Int.reduceEq,Int.reduceToNat]) <;> repeat ((with_reducible refine Req.intro ?_ ?_); (first | omega | (simp <;> omega)); try simp only [d1, t1, ex,reduceIte,reduceCtorEq,Nat.reduceEqDiff,Nat.reduceLT,Nat.reduceLeDiff,Nat.reduceAdd,Nat.reduceSub,Nat.reduceMul,Int.reduceAdd,Int.reduceSub,Int.reduceMul,Int.reduceNeg,Int.reduceLE,Int.reduceLT,Int.reduceEq,Int.reduceToNat])
          exact h9
  exact key s.length s [] (Nat.le_refl _) (by simp) (by simp)

theorem rsplit_spec (s : Sx) (hs : s.length ≤ 1000000) : Run tab 13 0 [.str s] [] 0 (fun r _ _ => r = .sl true 1 ((lns s).map .str)) := by
  refine enter (F := f13) rfl rfl ?_
  simp only [f13, ex,reduceIte,reduceCtorEq,Nat.reduceEqDiff,Nat.reduceLT,Nat.reduceLeDiff,Nat.reduceAdd,Nat.reduceSub,Nat.reduceMul,Int.reduceAdd,Int.reduceSub,Int.reduceMul,Int.reduceNeg,Int.reduceLE,Int.reduceLT,Int.reduceEq,Int.reduceToNat]
  (try simp only [ex,reduceIte,reduceCtorEq,Nat.reduceEqDiff,Nat.reduceLT,Nat.reduceLeDiff,Nat.reduceAdd,Nat.reduceSub,Nat.reduceMul,Int.reduceAdd,Int.reduceSub,Int.reduceMul,Int.reduceNeg,Int.reduceLE,Int.reduceLT,Int.reduceEq,Int.reduceToNat]) <;> repeat ((with_reducible refine Req.intro ?_ ?_); (first | omega | (simp <;> omega)); try simp only [ex,reduceIte,reduceCtorEq,Nat.reduceEqDiff,Nat.reduceLT,Nat.reduceLeDiff,Nat.reduceAdd,Nat.reduceSub,Nat.reduceMul,Int.reduceAdd,Int.reduceSub,Int.reduceMul,Int.reduceNeg,Int.reduceLE,Int.reduceLT,Int.reduceEq,Int.reduceToNat])
  refine loopI fun L hL => ?_
  (try simp only [ex,reduceIte,reduceCtorEq,Nat.reduceEqDiff,Nat.reduceLT,Nat.reduceLeDiff,Nat.reduceAdd,Nat.reduceSub,Nat.reduceMul,Int.reduceAdd,Int.reduceSub,Int.reduceMul,Int.reduceNeg,Int.reduceLE,Int.reduceLT,Int.reduceEq,Int.reduceToNat]) <;> repeat ((with_reducible refine Req.intro ?_ ?_); (first | omega | (simp <;> omega)); try simp only [ex,reduceIte,reduceCtorEq,Nat.reduceEqDiff,Nat.reduceLT,Nat.reduceLeDiff,Nat.reduceAdd,Nat.reduceSub,Nat.reduceMul,Int.reduceAdd,Int.reduceSub,Int.reduceMul,Int.reduceNeg,Int.reduceLE,Int.reduceLT,Int.reduceEq,Int.reduceToNat])
  have key : ∀ (m i fr : Nat) (out : List Sx), i + m = s.length → fr ≤ i → out.length ≤ i → out ++ lnG ((s.take i).drop fr) (s.drop i) = lns s → L (L13_1 (.str s) (.sl true 1 (out.map .str)) (.int .i64 fr) (.int .i64 s.length) (.int .i64 i) [] 0) := by
    intro m
    induction m with
    | zero =>
      intro i fr out hi hf ho he
      have h1 : decide ((i : Int) < (s.length : Int)) = false := by simp; omega
      rw [show s.drop i = [] from List.drop_of_length_le (by omega), show s.take i = s from List.take_of_length_le (by omega), lnG] at he
      rcases Nat.lt_or_ge fr s.length with c | c
      · have h2 : decide ((fr : Int) < (s.length : Int)) = true := by simp; omega
        rw [if_neg (fun e => by have := congrArg List.length e; simp at this; omega)] at he
        apply hL
        simp only [L13_1, l13_1, ex,reduceIte,reduceCtorEq,Nat.reduceEqDiff,Nat.reduceLT,Nat.reduceLeDiff,Nat.reduceAdd,Nat.reduceSub,Nat.reduceMul,Int.reduceAdd,Int.reduceSub,Int.reduceMul,Int.reduceNeg,Int.reduceLE,Int.reduceLT,Int.reduceEq,Int.reduceToNat]
        (try simp only [h1, h2, ex,reduceIte,reduceCtorEq,Nat.reduceEqDiff,Nat.reduceLT,Nat.reduceLeDiff,Nat.reduceAdd,Nat.reduceSub,Nat.reduceMul,Int.reduceAdd,Int.reduceSub,Int.reduceMul,Int.reduceNeg,Int.reduceLE,Int.reduceLT,Int.reduceEq,Int.reduceToNat]) <;> repeat ((with_reducible refine Req.intro ?_ ?_); (first | omega | (simp <;> omega)); try simp only [h1, h2, ex,reduceIte,reduceCtorEq,Nat.reduceEqDiff,Nat.reduceLT,Nat.reduceLeDiff,Nat.reduceAdd,Nat.reduceSub,Nat.reduceMul,Int.reduceAdd,Int.reduceSub,Int.reduceMul,Int.reduceNeg,Int.reduceLE,Int.reduceLT,Int.reduceEq,Int.reduceToNat])
        rw [← he]; simp
      · have h2 : decide ((fr : Int) < (s.length : Int)) = false := by simp; omega
        rw [if_pos (List.drop_of_length_le c), List.append_nil] at he
        apply hL
        simp only [L13_1, l13_1, ex,reduceIte,reduceCtorEq,Nat.reduceEqDiff,Nat.reduceLT,Nat.reduceLeDiff,Nat.reduceAdd,Nat.reduceSub,Nat.reduceMul,Int.reduceAdd,Int.reduceSub,Int.reduceMul,Int.reduceNeg,Int.reduceLE,Int.reduceLT,Int.reduceEq,Int.reduceToNat]
        (try simp only [h1, h2, ex,reduceIte,reduceCtorEq,Nat.reduceEqDiff,Nat.reduceLT,Nat.reduceLeDiff,Nat.reduceAdd,Nat.reduceSub,Nat.reduceMul,Int.reduceAdd,Int.reduceSub,Int.reduceMul,Int.reduceNeg,Int.reduceLE,Int.reduceLT,Int.reduceEq,Int.reduceToNat]) <;> repeat ((with_reducible refine Req.intro ?_ ?_); (first | omega | (simp <;> omega)); try simp only [h1, h2, ex,reduceIte,reduceCtorEq,Nat.reduceEqDiff,Nat.reduceLT,Nat.reduceLeDiff,Nat.reduceAdd,Nat.reduceSub,Nat.reduceMul,Int.reduceAdd,Int.reduceSub,Int.reduceMul,Int.reduceNeg,Int.reduceLE,Int.reduceLT,Int.reduceEq,Int.reduceToNat])
        rw [he]
    | succ m ih =>
      intro i fr out hi hf ho he
      have h1 : decide ((i : Int) < (s.length : Int)) = true := by simp; omega
      have g1 : s[i]? = some (s[i]'(by omega)) := List.getElem?_eq_getElem _
      have g2 : s.getD i 0 = s[i]'(by omega) := by rw [List.getD_eq_getElem?_getD, g1]; rfl
      rw [show s.drop i = s[i]'(by omega) :: s.drop (i + 1) from List.drop_eq_getElem_cons (by omega), lnG] at he
      have ht : (s.take (i + 1)).drop fr = (s.take i).drop fr ++ [s[i]'(by omega)] := by
        rw [List.take_add_one, g1, List.drop_append_of_le_length (by simp; omega)]; rfl
      generalize s[i]'(by omega) = c at *
      have t1 : ((i : Int) + 1).toNat = i + 1 := by omega
      rcases Classical.em (c = 10) with e | e
      · have h2 : decide (((c.toNat : Nat) : Int) = 10) = true := by rw [e]; decide
        rw [if_pos e, ← ht] at he
        have h9 := ih (i + 1) (i + 1) (out ++ [(s.take (i + 1)).drop fr]) (by omega) (by omega) (by simp; omega) (by rw [← he]; simp [List.drop_of_length_le])
        rw [List.map_append] at h9
        apply hL
        simp only [L13_1, l13_1, ex,reduceIte,reduceCtorEq,Nat.reduceEqDiff,Nat.reduceLT,Nat.reduceLeDiff,Nat.reduceAdd,Nat.reduceSub,Nat.reduceMul,Int.reduceAdd,Int.reduceSub,Int.reduceMul,Int.reduceNeg,Int.reduceLE,Int.reduceLT,Int.reduceEq,Int.reduceToNat]
        (try simp only [h1, g1, g2, h2, t1, ex,reduceIte,reduceCtorEq,Nat.reduceEqDiff,Nat.reduceLT,Nat.reduceLeDiff,Nat.reduceAdd,Nat.reduceSub,Nat.reduceMul,Int.reduceAdd,Int.reduceSub,Int.reduceMul,Int.reduceNeg,Int.reduceLE,Int.reduceLT,Int.reduceEq,Int.reduceToNat]) <;> repeat ((with_reducible refine Req.intro ?_ ?_); (first | omega | (simp <;> omega)); try simp only [h1, g1, g2, h2, t1, ex,reduceIte,reduceCtorEq,Nat.reduceEqDiff,Nat.reduceLT,Nat.reduceLeDiff,Nat.reduceAdd,Nat.reduceSub,Nat.reduceMul,Int.reduceAdd,Int.reduceSub,Int.reduceMul,Int.reduceNeg,Int.reduceLE,Int.reduceLT,Int.reduceEq,Int.reduceToNat])
        exact h9
      · have h2 : decide (((c.toNat : Nat) : Int) = 10) = false := by
          simp only [decide_eq_false_iff_not]
          intro h
          apply e
          apply UInt8.toNat_inj.1
          show c.toNat = 10
          omega
        rw [if_neg e, ← ht] at he
        have h9 := ih (i + 1) fr out (by omega) (by omega) (by omega) he
        apply hL
        simp only [L13_1, l13_1, ex,reduceIte,reduceCtorEq,Nat.reduceEqDiff,Nat.reduceLT,Nat.reduceLeDiff,Nat.reduceAdd,Nat.reduceSub,Nat.reduceMul,Int.reduceAdd,Int.reduceSub,Int.reduceMul,Int.reduceNeg,Int.reduceLE,Int.reduceLT,Int.reduceEq,Int.reduceToNat]
        (try simp only [h1, g1, g2, h2, t1, ex,reduceIte,reduceCtorEq,Nat.reduceEqDiff,Nat.reduceLT,Nat.reduceLeDiff,Nat.reduceAdd,Nat.reduceSub,Nat.reduceMul,Int.reduceAdd,Int.reduceSub,Int.reduceMul,Int.reduceNeg,Int.reduceLE,Int.reduceLT,Int.reduceEq,Int.reduceToNat]) <;> repeat ((with_reducible refine Req.intro ?_ ?_); (first | omega | (simp <;> omega)); try simp only [h1, g1, g2, h2, t1, ex,reduceIte,reduceCtorEq,Nat.reduceEqDiff,Nat.reduceLT,Nat.reduceLeDiff,Nat.reduceAdd,Nat.reduceSub,Nat.reduceMul,Int.reduceAdd,Int.reduceSub,Int.reduceMul,Int.reduceNeg,Int.reduceLE,Int.reduceLT,Int.reduceEq,Int.reduceToNat])
        exact h9
  exact key s.length 0 0 [] (Nat.zero_add _) (Nat.le_refl _) (by simp) (by simp [lns])
end Go.Proofs.Ythphnacnjbcpiaa.E.Hs

/- Small functions of chapter 11: few, bag, take, common, score. Conditions: none. -/
namespace Go.Proofs.Ythphnacnjbcpiaa.E.Hs
set_option linter.unusedVariables false
set_option linter.unusedSimpArgs false
set_option maxHeartbeats 20000000
set_option maxRecDepth 100000

def few (s : Sx) : Bool := decide (s.length ≤ 3000) && decide ((lns s).length ≤ 120)
theorem few_spec (s : Sx) : Run tab 8 0 [.str s] [] 0 (fun r _ _ => r = .bool (few s)) := by
  refine enter (F := f8) rfl rfl ?_
  simp only [f8, ex,reduceIte,reduceCtorEq,Nat.reduceEqDiff,Nat.reduceLT,Nat.reduceLeDiff,Nat.reduceAdd,Nat.reduceSub,Nat.reduceMul,Int.reduceAdd,Int.reduceSub,Int.reduceMul,Int.reduceNeg,Int.reduceLE,Int.reduceLT,Int.reduceEq,Int.reduceToNat]
  rcases Nat.lt_or_ge 3000 s.length with c | c
  · have h1 : decide ((s.length : Int) ≤ 3000) = false := by simp; omega
    (try simp only [h1, ex,reduceIte,reduceCtorEq,Nat.reduceEqDiff,Nat.reduceLT,Nat.reduceLeDiff,Nat.reduceAdd,Nat.reduceSub,Nat.reduceMul,Int.reduceAdd,Int.reduceSub,Int.reduceMul,Int.reduceNeg,Int.reduceLE,Int.reduceLT,Int.reduceEq,Int.reduceToNat]) <;> repeat ((with_reducible refine Req.intro ?_ ?_); (first | omega | (simp <;> omega)); try simp only [h1, ex,reduceIte,reduceCtorEq,Nat.reduceEqDiff,Nat.reduceLT,Nat.reduceLeDiff,Nat.reduceAdd,Nat.reduceSub,Nat.reduceMul,Int.reduceAdd,Int.reduceSub,Int.reduceMul,Int.reduceNeg,Int.reduceLE,Int.reduceLT,Int.reduceEq,Int.reduceToNat])
    unfold few
    rw [show decide (s.length ≤ 3000) = false by simp; omega]; rfl
  · have h1 : decide ((s.length : Int) ≤ 3000) = true := by simp; omega
    (try simp only [h1, ex,reduceIte,reduceCtorEq,Nat.reduceEqDiff,Nat.reduceLT,Nat.reduceLeDiff,Nat.reduceAdd,Nat.reduceSub,Nat.reduceMul,Int.reduceAdd,Int.reduceSub,Int.reduceMul,Int.reduceNeg,Int.reduceLE,Int.reduceLT,Int.reduceEq,Int.reduceToNat]) <;> repeat ((with_reducible refine Req.intro ?_ ?_); (first | omega | (simp <;> omega)); try simp only [h1, ex,reduceIte,reduceCtorEq,Nat.reduceEqDiff,Nat.reduceLT,Nat.reduceLeDiff,Nat.reduceAdd,Nat.reduceSub,Nat.reduceMul,Int.reduceAdd,Int.reduceSub,Int.reduceMul,Int.reduceNeg,Int.reduceLE,Int.reduceLT,Int.reduceEq,Int.reduceToNat])
    refine CallA.eq rfl (rsplit_spec s (by omega)) rfl ?_
    (try simp only [ex,reduceIte,reduceCtorEq,Nat.reduceEqDiff,Nat.reduceLT,Nat.reduceLeDiff,Nat.reduceAdd,Nat.reduceSub,Nat.reduceMul,Int.reduceAdd,Int.reduceSub,Int.reduceMul,Int.reduceNeg,Int.reduceLE,Int.reduceLT,Int.reduceEq,Int.reduceToNat]) <;> repeat ((with_reducible refine Req.intro ?_ ?_); (first | omega | (simp <;> omega)); try simp only [ex,reduceIte,reduceCtorEq,Nat.reduceEqDiff,Nat.reduceLT,Nat.reduceLeDiff,Nat.reduceAdd,Nat.reduceSub,Nat.reduceMul,Int.reduceAdd,Int.reduceSub,Int.reduceMul,Int.reduceNeg,Int.reduceLE,Int.reduceLT,Int.reduceEq,Int.reduceToNat])
    unfold few
    rw [show decide (s.length ≤ 3000) = true by simp; omega, Bool.true_and]
    congr 1
    simp <;> omega
def cv (m : Nat) : Option V := if m = 0 then none else some (.int .i64 m)
theorem cv_getD (m : Nat) : (cv m).getD (.int .i64 0) = .int .i64 m := by
  unfold cv; split
  · rename_i h; subst h; rfl
  · rfl
theorem cv_succ (m : Nat) : cv (m + 1) = some (.int .i64 ((m : Int) + 1)) := by unfold cv; rw [if_neg (by omega)]; rfl
/-- A map of counts. -/
def CntM (a : List Sx) (m : MS) : Prop := ∀ s, gt m s = cv (a.count s)
theorem CntM.nil : CntM [] [] := fun s => by simp [gt, cv]
theorem CntM.snoc {a : List Sx} {m : MS} (x : Sx) (h : CntM a m) : CntM (a ++ [x]) (ins m x (.int .i64 ((a.count x : Nat) + 1))) := by
  intro s
  rw [gt_ins, List.count_append]
  rcases Classical.em (s = x) with e | e
  · subst e
    rw [if_pos rfl, List.count_singleton_self, cv_succ]
  · rw [if_neg e, h s, List.count_singleton, if_neg (by simpa using fun e' => e e'.symm)]
    rfl
theorem cnt_le (a : List Sx) (x : Sx) : a.count x ≤ a.length := List.count_le_length
theorem lns_len (s : Sx) : (lns s).length ≤ s.length + 1 := lnG_len s []
theorem bag_spec (s : Sx) (hs : s.length ≤ 1000000) : Run tab 23 0 [.str s] [] 0 (fun r h n => ∃ m, r = .hm 0 ∧ h = [(0, .map (emb m))] ∧ n = 1 ∧ CntM (lns s) m) := by
  refine enter (F := f23) rfl rfl ?_
  simp only [f23, ex,reduceIte,reduceCtorEq,Nat.reduceEqDiff,Nat.reduceLT,Nat.reduceLeDiff,Nat.reduceAdd,Nat.reduceSub,Nat.reduceMul,Int.reduceAdd,Int.reduceSub,Int.reduceMul,Int.reduceNeg,Int.reduceLE,Int.reduceLT,Int.reduceEq,Int.reduceToNat]
  (try simp only [ex,reduceIte,reduceCtorEq,Nat.reduceEqDiff,Nat.reduceLT,Nat.reduceLeDiff,Nat.reduceAdd,Nat.reduceSub,Nat.reduceMul,Int.reduceAdd,Int.reduceSub,Int.reduceMul,Int.reduceNeg,Int.reduceLE,Int.reduceLT,Int.reduceEq,Int.reduceToNat]) <;> repeat ((with_reducible refine Req.intro ?_ ?_); (first | omega | (simp <;> omega)); try simp only [ex,reduceIte,reduceCtorEq,Nat.reduceEqDiff,Nat.reduceLT,Nat.reduceLeDiff,Nat.reduceAdd,Nat.reduceSub,Nat.reduceMul,Int.reduceAdd,Int.reduceSub,Int.reduceMul,Int.reduceNeg,Int.reduceLE,Int.reduceLT,Int.reduceEq,Int.reduceToNat])
  refine CallA.eq rfl (split_spec s hs) rfl ?_
  have hl := lns_len s
  (try simp only [ex,reduceIte,reduceCtorEq,Nat.reduceEqDiff,Nat.reduceLT,Nat.reduceLeDiff,Nat.reduceAdd,Nat.reduceSub,Nat.reduceMul,Int.reduceAdd,Int.reduceSub,Int.reduceMul,Int.reduceNeg,Int.reduceLE,Int.reduceLT,Int.reduceEq,Int.reduceToNat]) <;> repeat ((with_reducible refine Req.intro ?_ ?_); (first | omega | (simp <;> omega)); try simp only [ex,reduceIte,reduceCtorEq,Nat.reduceEqDiff,Nat.reduceLT,Nat.reduceLeDiff,Nat.reduceAdd,Nat.reduceSub,Nat.reduceMul,Int.reduceAdd,Int.reduceSub,Int.reduceMul,Int.reduceNeg,Int.reduceLE,Int.reduceLT,Int.reduceEq,Int.reduceToNat])
  generalize lns s = l at *
  refine loopI fun L hL => ?_
  (try simp only [ex,reduceIte,reduceCtorEq,Nat.reduceEqDiff,Nat.reduceLT,Nat.reduceLeDiff,Nat.reduceAdd,Nat.reduceSub,Nat.reduceMul,Int.reduceAdd,Int.reduceSub,Int.reduceMul,Int.reduceNeg,Int.reduceLE,Int.reduceLT,Int.reduceEq,Int.reduceToNat]) <;> repeat ((with_reducible refine Req.intro ?_ ?_); (first | omega | (simp <;> omega)); try simp only [ex,reduceIte,reduceCtorEq,Nat.reduceEqDiff,Nat.reduceLT,Nat.reduceLeDiff,Nat.reduceAdd,Nat.reduceSub,Nat.reduceMul,Int.reduceAdd,Int.reduceSub,Int.reduceMul,Int.reduceNeg,Int.reduceLE,Int.reduceLT,Int.reduceEq,Int.reduceToNat])
  have key : ∀ (m i : Nat) (mp : MS), i + m = l.length → CntM (l.take i) mp → L (L23_1 (.hm 0) (.sl true 1 (l.map .str)) (.int .i64 l.length) (.int .i64 i) [(0, .map (emb mp))] 1) := by
    intro m
    induction m with
    | zero =>
      intro i mp hi hm
      have h1 : decide ((i : Int) < (l.length : Int)) = false := by simp; omega
      rw [List.take_of_length_le (by omega)] at hm
      apply hL
      simp only [L23_1, l23_1, ex,reduceIte,reduceCtorEq,Nat.reduceEqDiff,Nat.reduceLT,Nat.reduceLeDiff,Nat.reduceAdd,Nat.reduceSub,Nat.reduceMul,Int.reduceAdd,Int.reduceSub,Int.reduceMul,Int.reduceNeg,Int.reduceLE,Int.reduceLT,Int.reduceEq,Int.reduceToNat]
      (try simp only [h1, ex,reduceIte,reduceCtorEq,Nat.reduceEqDiff,Nat.reduceLT,Nat.reduceLeDiff,Nat.reduceAdd,Nat.reduceSub,Nat.reduceMul,Int.reduceAdd,Int.reduceSub,Int.reduceMul,Int.reduceNeg,Int.reduceLE,Int.reduceLT,Int.reduceEq,Int.reduceToNat]) <;> repeat ((with_reducible refine Req.intro ?_ ?_); (first | omega | (simp <;> omega)); try simp only [h1, ex,reduceIte,reduceCtorEq,Nat.reduceEqDiff,Nat.reduceLT,Nat.reduceLeDiff,Nat.reduceAdd,Nat.reduceSub,Nat.reduceMul,Int.reduceAdd,Int.reduceSub,Int.reduceMul,Int.reduceNeg,Int.reduceLE,Int.reduceLT,Int.reduceEq,Int.reduceToNat])
      exact ⟨mp, rfl, hm⟩
    | succ m ih =>
      intro i mp hi hm
      have h1 : decide ((i : Int) < (l.length : Int)) = true := by simp; omega
      have g1 : l[i]? = some (l[i]'(by omega)) := List.getElem?_eq_getElem _
      have ht : l.take (i + 1) = l.take i ++ [l[i]'(by omega)] := by rw [List.take_add_one, g1]; rfl
      generalize l[i]'(by omega) = x at g1 ht
      have hc := cnt_le (l.take i) x
      have hc2 : (l.take i).length ≤ l.length := by simp; omega
      have hmx := hm x
      have h9 := ih (i + 1) _ (by omega) (by rw [ht]; exact hm.snoc x)
      apply hL
      simp only [L23_1, l23_1, ex,reduceIte,reduceCtorEq,Nat.reduceEqDiff,Nat.reduceLT,Nat.reduceLeDiff,Nat.reduceAdd,Nat.reduceSub,Nat.reduceMul,Int.reduceAdd,Int.reduceSub,Int.reduceMul,Int.reduceNeg,Int.reduceLE,Int.reduceLT,Int.reduceEq,Int.reduceToNat]
      (try simp only [h1, g1, findK_str, outQ_gt, hmx, cv_getD, upd_ins, ex,reduceIte,reduceCtorEq,Nat.reduceEqDiff,Nat.reduceLT,Nat.reduceLeDiff,Nat.reduceAdd,Nat.reduceSub,Nat.reduceMul,Int.reduceAdd,Int.reduceSub,Int.reduceMul,Int.reduceNeg,Int.reduceLE,Int.reduceLT,Int.reduceEq,Int.reduceToNat]) <;> repeat ((with_reducible refine Req.intro ?_ ?_); (first | omega | (simp <;> omega)); try simp only [h1, g1, findK_str, outQ_gt, hmx, cv_getD, upd_ins, ex,reduceIte,reduceCtorEq,Nat.reduceEqDiff,Nat.reduceLT,Nat.reduceLeDiff,Nat.reduceAdd,Nat.reduceSub,Nat.reduceMul,Int.reduceAdd,Int.reduceSub,Int.reduceMul,Int.reduceNeg,Int.reduceLE,Int.reduceLT,Int.reduceEq,Int.reduceToNat])
      exact h9
  exact key l.length 0 [] (Nat.zero_add _) CntM.nil
theorem i64_wrap3 {n : Int} (h0 : 0 ≤ n) (h : n < 1000000000000) : IntKind.i64.wrap n = n := by
  unfold IntKind.wrap
  simp [IntKind.bits, IntKind.signed]
  omega
theorem score_spec (a b c : Nat) (ha : a ≤ 1000000) (hb : b ≤ 1000000) (hc : c ≤ 1000000) : Run tab 21 0 [.int .i64 a, .int .i64 b, .int .i64 c] [] 0 (fun r _ _ => r = .int .i64 (if max a b = 0 then 100 else (100 * c / max a b : Nat) : Nat)) := by
  refine enter (F := f21) rfl rfl ?_
  simp only [f21, ex,reduceIte,reduceCtorEq,Nat.reduceEqDiff,Nat.reduceLT,Nat.reduceLeDiff,Nat.reduceAdd,Nat.reduceSub,Nat.reduceMul,Int.reduceAdd,Int.reduceSub,Int.reduceMul,Int.reduceNeg,Int.reduceLE,Int.reduceLT,Int.reduceEq,Int.reduceToNat]
  have h0 : (if (b : Int) > (a : Int) then (b : Int) else (a : Int)) = ((max a b : Nat) : Int) := by split <;> omega
  rcases Nat.eq_zero_or_pos (max a b) with z | z
  · have h1 : decide (((max a b : Nat) : Int) = 0) = true := by simp; omega
    (try simp only [h0, h1, ex,reduceIte,reduceCtorEq,Nat.reduceEqDiff,Nat.reduceLT,Nat.reduceLeDiff,Nat.reduceAdd,Nat.reduceSub,Nat.reduceMul,Int.reduceAdd,Int.reduceSub,Int.reduceMul,Int.reduceNeg,Int.reduceLE,Int.reduceLT,Int.reduceEq,Int.reduceToNat]) <;> repeat ((with_reducible refine Req.intro ?_ ?_); (first | omega | (simp <;> omega)); try simp only [h0, h1, ex,reduceIte,reduceCtorEq,Nat.reduceEqDiff,Nat.reduceLT,Nat.reduceLeDiff,Nat.reduceAdd,Nat.reduceSub,Nat.reduceMul,Int.reduceAdd,Int.reduceSub,Int.reduceMul,Int.reduceNeg,Int.reduceLE,Int.reduceLT,Int.reduceEq,Int.reduceToNat])
    rw [if_pos z]; rfl
  · have h1 : decide (((max a b : Nat) : Int) = 0) = false := by simp; omega
    have hd : (100 * (c : Int)).tdiv ((max a b : Nat) : Int) = ((100 * c / max a b : Nat) : Int) := by
      rw [Int.tdiv_eq_ediv_of_nonneg (by omega)]; simp
    have hle : 100 * c / max a b ≤ 100 * c := Nat.div_le_self _ _
    (try simp only [h0, h1, ex,reduceIte,reduceCtorEq,Nat.reduceEqDiff,Nat.reduceLT,Nat.reduceLeDiff,Nat.reduceAdd,Nat.reduceSub,Nat.reduceMul,Int.reduceAdd,Int.reduceSub,Int.reduceMul,Int.reduceNeg,Int.reduceLE,Int.reduceLT,Int.reduceEq,Int.reduceToNat]) <;> repeat ((with_reducible refine Req.intro ?_ ?_); (first | omega | (simp <;> omega)); try simp only [h0, h1, ex,reduceIte,reduceCtorEq,Nat.reduceEqDiff,Nat.reduceLT,Nat.reduceLeDiff,Nat.reduceAdd,Nat.reduceSub,Nat.reduceMul,Int.reduceAdd,Int.reduceSub,Int.reduceMul,Int.reduceNeg,Int.reduceLE,Int.reduceLT,Int.reduceEq,Int.reduceToNat])
    rw [hd, if_neg (by omega)]
    generalize 100 * c / max a b = q at hle ⊢
    rw [i64_wrap3 (by omega) (by omega)]

/-- What a line brings: its bytes, so long as it is wanted. -/
def bring (a p : List Sx) (x : Sx) : Nat := if a.count x < p.count x + 1 then 0 else x.length
theorem take_spec (a p : List Sx) (x : Sx) (ma mp : MS) (h : Heap) (n i1 i2 k1 k2 : Nat) (g1 : get h i1 = some (.rows 1 [.agg [.hm k1]])) (g2 : get h i2 = some (.rows 1 [.agg [.hm k2]])) (g3 : get h k1 = some (.map (emb mp))) (g4 : get h k2 = some (.map (emb ma))) (e1 : k1 ≠ k2) (e2 : i1 ≠ k1) (e3 : i2 ≠ k1) (ha : CntM a ma) (hp : CntM p mp) (hl : p.length ≤ 1000000) (hla : a.length ≤ 1000000) :
    Run tab 27 0 [.str x, .ptr i1 1 0 0, .ptr i2 1 0 0] h n (fun r h' n' => ∃ mp', r = .int .i64 (bring a p x : Nat) ∧ n' = n ∧ h' = set h k1 (.map (emb mp')) ∧ CntM (p ++ [x]) mp') := by
  refine enter (F := f27) rfl rfl ?_
  simp only [f27, ex,reduceIte,reduceCtorEq,Nat.reduceEqDiff,Nat.reduceLT,Nat.reduceLeDiff,Nat.reduceAdd,Nat.reduceSub,Nat.reduceMul,Int.reduceAdd,Int.reduceSub,Int.reduceMul,Int.reduceNeg,Int.reduceLE,Int.reduceLT,Int.reduceEq,Int.reduceToNat]
  have hc := cnt_le p x
  have hca := cnt_le a x
  have hpx := hp x
  have hax := ha x
  have hs := hp.snoc x
  have hsx := hs x
  have s1 : ∀ y, get (set h k1 y) i1 = some (.rows 1 [.agg [.hm k1]]) := fun y => by rw [get_set_other e2, g1]
  have s2 : ∀ y, get (set h k1 y) i2 = some (.rows 1 [.agg [.hm k2]]) := fun y => by rw [get_set_other e3, g2]
  have s3 : ∀ y, get (set h k1 y) k2 = some (.map (emb ma)) := fun y => by rw [get_set_other e1.symm, g4]
  have hcnt : (p ++ [x]).count x = p.count x + 1 := by rw [List.count_append, List.count_singleton_self]
  rw [hcnt] at hsx
  rcases Nat.lt_or_ge (a.count x) (p.count x + 1) with c | c
  · have h1 : decide (((p.count x + 1 : Nat) : Int) > ((a.count x : Nat) : Int)) = true := by simp; omega
    (try simp only [g1, g2, g3, g4, s1, s2, s3, get_set_same, findK_str, outQ_gt, hpx, hax, hsx, cv_getD, upd_ins, h1, ex,reduceIte,reduceCtorEq,Nat.reduceEqDiff,Nat.reduceLT,Nat.reduceLeDiff,Nat.reduceAdd,Nat.reduceSub,Nat.reduceMul,Int.reduceAdd,Int.reduceSub,Int.reduceMul,Int.reduceNeg,Int.reduceLE,Int.reduceLT,Int.reduceEq,Int.reduceToNat]) <;> repeat ((with_reducible refine Req.intro ?_ ?_); (first | omega | (simp <;> omega)); try simp only [g1, g2, g3, g4, s1, s2, s3, get_set_same, findK_str, outQ_gt, hpx, hax, hsx, cv_getD, upd_ins, h1, ex,reduceIte,reduceCtorEq,Nat.reduceEqDiff,Nat.reduceLT,Nat.reduceLeDiff,Nat.reduceAdd,Nat.reduceSub,Nat.reduceMul,Int.reduceAdd,Int.reduceSub,Int.reduceMul,Int.reduceNeg,Int.reduceLE,Int.reduceLT,Int.reduceEq,Int.reduceToNat])
    exact ⟨_, by unfold bring; rw [if_pos c]; rfl, rfl, hs⟩
  · have h1 : decide (((p.count x + 1 : Nat) : Int) > ((a.count x : Nat) : Int)) = false := by simp; omega
    (try simp only [g1, g2, g3, g4, s1, s2, s3, get_set_same, findK_str, outQ_gt, hpx, hax, hsx, cv_getD, upd_ins, h1, ex,reduceIte,reduceCtorEq,Nat.reduceEqDiff,Nat.reduceLT,Nat.reduceLeDiff,Nat.reduceAdd,Nat.reduceSub,Nat.reduceMul,Int.reduceAdd,Int.reduceSub,Int.reduceMul,Int.reduceNeg,Int.reduceLE,Int.reduceLT,Int.reduceEq,Int.reduceToNat]) <;> repeat ((with_reducible refine Req.intro ?_ ?_); (first | omega | (simp <;> omega)); try simp only [g1, g2, g3, g4, s1, s2, s3, get_set_same, findK_str, outQ_gt, hpx, hax, hsx, cv_getD, upd_ins, h1, ex,reduceIte,reduceCtorEq,Nat.reduceEqDiff,Nat.reduceLT,Nat.reduceLeDiff,Nat.reduceAdd,Nat.reduceSub,Nat.reduceMul,Int.reduceAdd,Int.reduceSub,Int.reduceMul,Int.reduceNeg,Int.reduceLE,Int.reduceLT,Int.reduceEq,Int.reduceToNat])
    exact ⟨_, by unfold bring; rw [if_neg (by omega)], rfl, hs⟩
end Go.Proofs.Ythphnacnjbcpiaa.E.Hs

/- simil.common: walked. Conditions: none. -/
namespace Go.Proofs.Ythphnacnjbcpiaa.E.Hs
set_option linter.unusedVariables false
set_option linter.unusedSimpArgs false
set_option maxHeartbeats 20000000
set_option maxRecDepth 100000

theorem lnG_line : ∀ (s cur : Sx), ∀ x ∈ lnG cur s, x.length ≤ cur.length + s.length
  | [], cur, x, h => by
    unfold lnG at h
    split at h
    · simp at h
    · rw [List.mem_singleton] at h; subst h; simp
  | c :: s, cur, x, h => by
    unfold lnG at h
    split at h
    · rcases List.mem_cons.1 h with rfl | h
      · simp <;> omega
      · have := lnG_line s [] x h; simp at this ⊢; omega
    · have := lnG_line s (cur ++ [c]) x h; simp at this ⊢; omega
/-- What all lines bring. -/
def total (a : List Sx) : List Sx → List Sx → Nat
  | p, [] => 0
  | p, x :: r => bring a p x + total a (p ++ [x]) r
theorem bring_le (a p : List Sx) (x : Sx) : bring a p x ≤ x.length := by unfold bring; split <;> omega
theorem common_spec (a : List Sx) (ma : MS) (s : Sx) (h : Heap) (n kb : Nat) (hs : s.length ≤ 100000) (hla : a.length ≤ 1000000) (gb : get h kb = some (.map (emb ma))) (hkb : kb < n) (ha : CntM a ma) :
    Run tab 22 0 [.hm kb, .str s] h n (fun r h' n' => r = .int .i64 (total a [] (lns s) : Nat) ∧ n ≤ n' ∧ ∀ k, k < n → get h' k = get h k) := by
  refine enter (F := f22) rfl rfl ?_
  simp only [f22, ex,reduceIte,reduceCtorEq,Nat.reduceEqDiff,Nat.reduceLT,Nat.reduceLeDiff,Nat.reduceAdd,Nat.reduceSub,Nat.reduceMul,Int.reduceAdd,Int.reduceSub,Int.reduceMul,Int.reduceNeg,Int.reduceLE,Int.reduceLT,Int.reduceEq,Int.reduceToNat]
  have q1 : ∀ (H : Heap) x, get (set H (n + 1 + 1) x) (n + 1 + 1) = some x := fun H x => get_set_same
  (try simp only [get_set_same, ex,reduceIte,reduceCtorEq,Nat.reduceEqDiff,Nat.reduceLT,Nat.reduceLeDiff,Nat.reduceAdd,Nat.reduceSub,Nat.reduceMul,Int.reduceAdd,Int.reduceSub,Int.reduceMul,Int.reduceNeg,Int.reduceLE,Int.reduceLT,Int.reduceEq,Int.reduceToNat]) <;> repeat ((with_reducible refine Req.intro ?_ ?_); (first | omega | (simp <;> omega)); try simp only [get_set_same, ex,reduceIte,reduceCtorEq,Nat.reduceEqDiff,Nat.reduceLT,Nat.reduceLeDiff,Nat.reduceAdd,Nat.reduceSub,Nat.reduceMul,Int.reduceAdd,Int.reduceSub,Int.reduceMul,Int.reduceNeg,Int.reduceLE,Int.reduceLT,Int.reduceEq,Int.reduceToNat])
  refine CallA.eq rfl (split_spec s (by omega)) rfl ?_
  have hll := lns_len s
  have hli := lnG_line s []
  simp only [List.length_nil, Nat.zero_add] at hli
  have hli : ∀ x ∈ lns s, x.length ≤ s.length := hli
  (try simp only [ex,reduceIte,reduceCtorEq,Nat.reduceEqDiff,Nat.reduceLT,Nat.reduceLeDiff,Nat.reduceAdd,Nat.reduceSub,Nat.reduceMul,Int.reduceAdd,Int.reduceSub,Int.reduceMul,Int.reduceNeg,Int.reduceLE,Int.reduceLT,Int.reduceEq,Int.reduceToNat]) <;> repeat ((with_reducible refine Req.intro ?_ ?_); (first | omega | (simp <;> omega)); try simp only [ex,reduceIte,reduceCtorEq,Nat.reduceEqDiff,Nat.reduceLT,Nat.reduceLeDiff,Nat.reduceAdd,Nat.reduceSub,Nat.reduceMul,Int.reduceAdd,Int.reduceSub,Int.reduceMul,Int.reduceNeg,Int.reduceLE,Int.reduceLT,Int.reduceEq,Int.reduceToNat])
  generalize lns s = l at *
  refine loopI fun L hL => ?_
  (try simp only [ex,reduceIte,reduceCtorEq,Nat.reduceEqDiff,Nat.reduceLT,Nat.reduceLeDiff,Nat.reduceAdd,Nat.reduceSub,Nat.reduceMul,Int.reduceAdd,Int.reduceSub,Int.reduceMul,Int.reduceNeg,Int.reduceLE,Int.reduceLT,Int.reduceEq,Int.reduceToNat]) <;> repeat ((with_reducible refine Req.intro ?_ ?_); (first | omega | (simp <;> omega)); try simp only [ex,reduceIte,reduceCtorEq,Nat.reduceEqDiff,Nat.reduceLT,Nat.reduceLeDiff,Nat.reduceAdd,Nat.reduceSub,Nat.reduceMul,Int.reduceAdd,Int.reduceSub,Int.reduceMul,Int.reduceNeg,Int.reduceLE,Int.reduceLT,Int.reduceEq,Int.reduceToNat])
  have key : ∀ (m i sum : Nat) (mp : MS) (H : Heap), i + m = l.length → sum + total a (l.take i) (l.drop i) = total a [] l → sum ≤ i * 100000 → CntM (l.take i) mp →
      get H (n + 2) = some (.rows 1 [.agg [.hm (n + 1)]]) → get H n = some (.rows 1 [.agg [.hm kb]]) → get H (n + 1) = some (.map (emb mp)) → (∀ k, k < n → get H k = get h k) →
      L (L22_1 (.fn 27 [.ptr (n + 2) 1 0 0, .ptr n 1 0 0]) (.int .i64 sum) (.sl true 1 (l.map .str)) (.int .i64 l.length) (.int .i64 i) H (n + 3)) := by
    intro m
    induction m with
    | zero =>
      intro i sum mp H hi hsum hb hm g1 g2 g3 gk
      have h1 : decide ((i : Int) < (l.length : Int)) = false := by simp; omega
      rw [List.drop_of_length_le (by omega), total, Nat.add_zero] at hsum
      apply hL
      simp only [L22_1, l22_1, ex,reduceIte,reduceCtorEq,Nat.reduceEqDiff,Nat.reduceLT,Nat.reduceLeDiff,Nat.reduceAdd,Nat.reduceSub,Nat.reduceMul,Int.reduceAdd,Int.reduceSub,Int.reduceMul,Int.reduceNeg,Int.reduceLE,Int.reduceLT,Int.reduceEq,Int.reduceToNat]
      (try simp only [h1, ex,reduceIte,reduceCtorEq,Nat.reduceEqDiff,Nat.reduceLT,Nat.reduceLeDiff,Nat.reduceAdd,Nat.reduceSub,Nat.reduceMul,Int.reduceAdd,Int.reduceSub,Int.reduceMul,Int.reduceNeg,Int.reduceLE,Int.reduceLT,Int.reduceEq,Int.reduceToNat]) <;> repeat ((with_reducible refine Req.intro ?_ ?_); (first | omega | (simp <;> omega)); try simp only [h1, ex,reduceIte,reduceCtorEq,Nat.reduceEqDiff,Nat.reduceLT,Nat.reduceLeDiff,Nat.reduceAdd,Nat.reduceSub,Nat.reduceMul,Int.reduceAdd,Int.reduceSub,Int.reduceMul,Int.reduceNeg,Int.reduceLE,Int.reduceLT,Int.reduceEq,Int.reduceToNat])
      exact ⟨by rw [hsum], by omega, gk⟩
    | succ m ih =>
      intro i sum mp H hi hsum hb hm g1 g2 g3 gk
      have h1 : decide ((i : Int) < (l.length : Int)) = true := by simp; omega
      have e1 : l[i]? = some (l[i]'(by omega)) := List.getElem?_eq_getElem _
      have ht : l.take (i + 1) = l.take i ++ [l[i]'(by omega)] := by rw [List.take_add_one, e1]; rfl
      have hx := hli (l[i]'(by omega)) (List.getElem_mem _)
      rw [List.drop_eq_getElem_cons (by omega), total, ← ht, ← Nat.add_assoc] at hsum
      generalize l[i]'(by omega) = x at *
      have hbr := bring_le a (l.take i) x
      have hltk : (l.take i).length ≤ l.length := by simp; omega
      have h9 := fun mp' H' => ih (i + 1) (sum + bring a (l.take i) x) mp' H' (by omega) hsum (by omega)
      apply hL
      simp only [L22_1, l22_1, ex,reduceIte,reduceCtorEq,Nat.reduceEqDiff,Nat.reduceLT,Nat.reduceLeDiff,Nat.reduceAdd,Nat.reduceSub,Nat.reduceMul,Int.reduceAdd,Int.reduceSub,Int.reduceMul,Int.reduceNeg,Int.reduceLE,Int.reduceLT,Int.reduceEq,Int.reduceToNat]
      (try simp only [h1, e1, ex,reduceIte,reduceCtorEq,Nat.reduceEqDiff,Nat.reduceLT,Nat.reduceLeDiff,Nat.reduceAdd,Nat.reduceSub,Nat.reduceMul,Int.reduceAdd,Int.reduceSub,Int.reduceMul,Int.reduceNeg,Int.reduceLE,Int.reduceLT,Int.reduceEq,Int.reduceToNat]) <;> repeat ((with_reducible refine Req.intro ?_ ?_); (first | omega | (simp <;> omega)); try simp only [h1, e1, ex,reduceIte,reduceCtorEq,Nat.reduceEqDiff,Nat.reduceLT,Nat.reduceLeDiff,Nat.reduceAdd,Nat.reduceSub,Nat.reduceMul,Int.reduceAdd,Int.reduceSub,Int.reduceMul,Int.reduceNeg,Int.reduceLE,Int.reduceLT,Int.reduceEq,Int.reduceToNat])
      refine CallH.any (take_spec a (l.take i) x ma mp H _ (n + 2) n (n + 1) kb g1 g2 g3 (by rw [gk kb hkb]; exact gb) (by omega) (by omega) (by omega) ha hm (by omega) hla) ?_
      intro r h' n' hx'
      have y := hx'.choose_spec
      generalize hx'.choose = mp' at y
      have y1 := y.1
      have y2 := y.2.1
      have y3 := y.2.2.1
      have y4 := y.2.2.2
      clear hx' y
      have k9 := h9 mp' h' (by rw [ht]; exact y4) (by rw [y3, get_set_other (by omega), g1]) (by rw [y3, get_set_other (by omega), g2]) (by rw [y3, get_set_same]) (fun k hk => by rw [y3, get_set_other (by omega), gk k hk])
      have hnn : n + 3 + (n' - (n + 3)) = n + 3 := by omega
      (try simp only [y1, hnn, ex,reduceIte,reduceCtorEq,Nat.reduceEqDiff,Nat.reduceLT,Nat.reduceLeDiff,Nat.reduceAdd,Nat.reduceSub,Nat.reduceMul,Int.reduceAdd,Int.reduceSub,Int.reduceMul,Int.reduceNeg,Int.reduceLE,Int.reduceLT,Int.reduceEq,Int.reduceToNat]) <;> repeat ((with_reducible refine Req.intro ?_ ?_); (first | omega | (simp <;> omega)); try simp only [y1, hnn, ex,reduceIte,reduceCtorEq,Nat.reduceEqDiff,Nat.reduceLT,Nat.reduceLeDiff,Nat.reduceAdd,Nat.reduceSub,Nat.reduceMul,Int.reduceAdd,Int.reduceSub,Int.reduceMul,Int.reduceNeg,Int.reduceLE,Int.reduceLT,Int.reduceEq,Int.reduceToNat])
      exact k9
  have k0 := key l.length 0 0 [] (set (set (set (set h n (Blk.rows 1 [V.agg [V.hm kb]])) (n + 1) (Blk.map [])) (n + 2) (Blk.rows 1 [V.agg [V.nilm]])) (n + 2) (Blk.rows 1 [V.agg [V.hm (n + 1)]])) (Nat.zero_add _) (by simp) (by omega) (by rw [List.take_zero]; exact CntM.nil)
    get_set_same (by rw [get_set_other (by omega), get_set_other (by omega), get_set_other (by omega), get_set_same]) (by rw [get_set_other (by omega), get_set_other (by omega), get_set_same]; rfl) (fun k hk => by rw [get_set_other (by omega), get_set_other (by omega), get_set_other (by omega), get_set_other (by omega)])
  exact k0
end Go.Proofs.Ythphnacnjbcpiaa.E.Hs

/- The insertion sort of scores: walked; its head is the first of the greatest. Conditions: none. -/
namespace Go.Proofs.Ythphnacnjbcpiaa.E.Hs
set_option linter.unusedVariables false
set_option linter.unusedSimpArgs false
set_option maxHeartbeats 20000000
set_option maxRecDepth 100000

abbrev Sc := Nat × Nat
def scV (p : Sc) : V := .agg [.int .i64 p.1, .int .i64 p.2]
theorem cmp_spec (x y : Sc) (h : Heap) (n : Nat) (hx : x.2 ≤ 1000000) (hy : y.2 ≤ 1000000) : Run tab 26 0 [.agg [.int .i64 x.1, .int .i64 x.2], .agg [.int .i64 y.1, .int .i64 y.2]] h n (fun r h' n' => r = .int .i64 ((y.2 : Int) - (x.2 : Int)) ∧ h' = h ∧ n' = n + 2) := by
  refine enter (F := f26) rfl rfl ?_
  simp only [f26, ex,reduceIte,reduceCtorEq,Nat.reduceEqDiff,Nat.reduceLT,Nat.reduceLeDiff,Nat.reduceAdd,Nat.reduceSub,Nat.reduceMul,Int.reduceAdd,Int.reduceSub,Int.reduceMul,Int.reduceNeg,Int.reduceLE,Int.reduceLT,Int.reduceEq,Int.reduceToNat]
  (try simp only [ex,reduceIte,reduceCtorEq,Nat.reduceEqDiff,Nat.reduceLT,Nat.reduceLeDiff,Nat.reduceAdd,Nat.reduceSub,Nat.reduceMul,Int.reduceAdd,Int.reduceSub,Int.reduceMul,Int.reduceNeg,Int.reduceLE,Int.reduceLT,Int.reduceEq,Int.reduceToNat]) <;> repeat ((with_reducible refine Req.intro ?_ ?_); (first | omega | (simp <;> omega)); try simp only [ex,reduceIte,reduceCtorEq,Nat.reduceEqDiff,Nat.reduceLT,Nat.reduceLeDiff,Nat.reduceAdd,Nat.reduceSub,Nat.reduceMul,Int.reduceAdd,Int.reduceSub,Int.reduceMul,Int.reduceNeg,Int.reduceLE,Int.reduceLT,Int.reduceEq,Int.reduceToNat])
/-- The first of the greatest. -/
def fmax : List Sc → Option Sc := List.foldl (fun o p => match o with | none => some p | some q => if q.2 < p.2 then some p else some q) none
theorem fmax_snoc (l : List Sc) (p : Sc) : fmax (l ++ [p]) = match fmax l with | none => some p | some q => if q.2 < p.2 then some p else some q := by
  unfold fmax; rw [List.foldl_append]; rfl
def Down (l : List Sc) : Prop := l.Pairwise fun x y => y.2 ≤ x.2
/-- So far it is sorted. -/
structure Sof (l d : List Sc) (i : Nat) : Prop where
  len : d.length = l.length
  rest : d.drop i = l.drop i
  down : Down (d.take i)
  head : 0 < i → d[0]? = fmax (l.take i)
  sm : ∀ p ∈ d, p.2 ≤ 1000000
/-- One element on its way: it stands at j, what it passed is behind it. -/
structure Way (P : List Sc) (x : Sc) (R d : List Sc) (j : Nat) : Prop where
  jl : j ≤ P.length
  eq : d = P.take j ++ x :: (P.drop j ++ R)
  lt : ∀ y ∈ P.drop j, y.2 < x.2
theorem Way.next {P : List Sc} {x : Sc} {R d : List Sc} {j : Nat} {y : Sc} (h : Way P x R d (j + 1)) (hy : P[j]? = some y) (hlt : y.2 < x.2) : d[j + 1]? = some x ∧ d[j]? = some y ∧ Way P x R ((d.set (j + 1) y).set j x) j := by
  obtain ⟨hj, rfl, h3⟩ := h
  obtain ⟨hl, he⟩ := List.getElem?_eq_some_iff.1 hy
  have e1 : P.take (j + 1) = P.take j ++ [y] := by rw [List.take_add_one, hy]; rfl
  have e2 : P.drop j = y :: P.drop (j + 1) := by rw [List.drop_eq_getElem_cons hl, he]
  have l1 : (P.take j).length = j := by simp; omega
  refine ⟨?_, ?_, by omega, ?_, ?_⟩
  · rw [e1, List.append_assoc, List.getElem?_append_right (by omega), l1]; simp
  · rw [e1, List.append_assoc, List.getElem?_append_right (by omega), l1]; simp
  · rw [e1, e2, List.append_assoc, List.set_append_right _ _ (by omega), List.set_append_right _ _ (by omega), l1]
    simp
  · intro z hz
    rw [e2] at hz
    rcases List.mem_cons.1 hz with rfl | hz
    · exact hlt
    · exact h3 z hz
theorem Way.done {l d0 d : List Sc} {i j : Nat} {x : Sc} (hs : Sof l d0 i) (hi : 0 < i) (hx : d0[i]? = some x) (h : Way (d0.take i) x (d0.drop (i + 1)) d j) (hst : j = 0 ∨ ∃ y, (d0.take i)[j - 1]? = some y ∧ x.2 ≤ y.2) : Sof l d (i + 1) := by
  obtain ⟨hxl, hxe⟩ := List.getElem?_eq_some_iff.1 hx
  have hP : (d0.take i).length = i := by simp; omega
  have hd := hs.down
  have hh := hs.head hi
  have hl := hs.len
  have hr := hs.rest
  have hm := hs.sm
  have hj := h.jl
  have heq := h.eq
  have hlt := h.lt
  have ht : l.take (i + 1) = l.take i ++ [x] := by
    have : l[i]? = some x := by
      have h2 : (d0.drop i)[0]? = (l.drop i)[0]? := by rw [hr]
      rw [List.getElem?_drop, List.getElem?_drop, Nat.add_zero, hx] at h2
      exact h2.symm
    rw [List.take_add_one, this]; rfl
  have h0 : (d0.take i)[0]? = d0[0]? := by rw [List.getElem?_take, if_pos hi]
  have hr1 : d0.drop (i + 1) = l.drop (i + 1) := by rw [← List.drop_drop, hr, List.drop_drop]
  generalize hPP : d0.take i = P at *
  have hQ : d = (P.take j ++ x :: P.drop j) ++ d0.drop (i + 1) := by rw [heq]; simp
  have lQ : (P.take j ++ x :: P.drop j).length = i + 1 := by simp; omega
  refine ⟨?_, ?_, ?_, fun _ => ?_, ?_⟩
  · rw [hQ, List.length_append, lQ, List.length_drop]; omega
  · rw [hQ, List.drop_append_of_le_length (by omega), List.drop_of_length_le (by omega), List.nil_append, hr1]
  · rw [hQ, List.take_append_of_le_length (by omega), List.take_of_length_le (by omega)]
    have hd2 : Down (P.take j ++ P.drop j) := by rw [List.take_append_drop]; exact hd
    have p := List.pairwise_append.1 hd2
    refine List.pairwise_append.2 ⟨p.1, List.pairwise_cons.2 ⟨fun y hy => Nat.le_of_lt (hlt y hy), p.2.1⟩, fun y hy z hz => ?_⟩
    rcases List.mem_cons.1 hz with rfl | hz
    · rcases hst with rfl | ⟨y0, hy0, hle⟩
      · simp at hy
      · obtain ⟨k, hk⟩ := List.mem_iff_getElem?.1 hy
        rw [List.getElem?_take] at hk
        split at hk
        · rename_i hkj
          obtain ⟨k1, k2⟩ := List.getElem?_eq_some_iff.1 hk
          obtain ⟨m1, m2⟩ := List.getElem?_eq_some_iff.1 hy0
          rcases Nat.lt_or_ge k (j - 1) with c | c
          · have := List.pairwise_iff_getElem.1 hd k (j - 1) k1 m1 c
            rw [k2, m2] at this
            omega
          · have : k = j - 1 := by omega
            subst this
            rw [m2] at k2; subst k2; exact hle
        · cases hk
    · exact p.2.2 y hy z hz
  · rw [ht, fmax_snoc, ← hh, ← h0]
    rcases Nat.eq_zero_or_pos j with c | c
    · subst c
      have : d[0]? = some x := by rw [heq]; simp
      rw [this]
      have hp0 : 0 < P.length := by omega
      rw [List.getElem?_eq_getElem hp0]
      have := hlt P[0] (by simp)
      simp only
      rw [if_pos this]
    · have : d[0]? = P[0]? := by
        rw [heq, List.getElem?_append_left (by simp; omega), List.getElem?_take, if_pos c]
      rw [this]
      have hp0 : 0 < P.length := by omega
      rw [List.getElem?_eq_getElem hp0]
      simp only
      rcases hst with c' | ⟨y0, hy0, hle⟩
      · omega
      · obtain ⟨m1, m2⟩ := List.getElem?_eq_some_iff.1 hy0
        have : P[j - 1].2 ≤ P[0].2 := by
          rcases Nat.eq_zero_or_pos (j - 1) with z | z
          · simp [z]
          · exact List.pairwise_iff_getElem.1 hd 0 (j - 1) hp0 m1 z
        rw [m2] at this
        rw [if_neg (by omega)]
  · intro p hp
    apply hm
    rw [heq] at hp
    have hsub : ∀ q ∈ P, q ∈ d0 := fun q hq => by rw [← hPP] at hq; exact List.mem_of_mem_take hq
    rcases List.mem_append.1 hp with hp | hp
    · exact hsub p (List.mem_of_mem_take hp)
    · rcases List.mem_cons.1 hp with rfl | hp
      · exact List.mem_of_getElem? hx
      · rcases List.mem_append.1 hp with hp | hp
        · exact hsub p (List.mem_of_mem_drop hp)
        · exact List.mem_of_mem_drop hp
end Go.Proofs.Ythphnacnjbcpiaa.E.Hs

/- insertionSortCmpFunc at scores: walked. Conditions: none. -/
namespace Go.Proofs.Ythphnacnjbcpiaa.E.Hs
set_option linter.unusedVariables false
set_option linter.unusedSimpArgs false
set_option maxHeartbeats 20000000
set_option maxRecDepth 100000

theorem isort_spec (b : Nat) (l : List Sc) (h : Heap) (n : Nat) (hl : l.length ≤ 1000) (hs : ∀ p ∈ l, p.2 ≤ 1000000) (hb : get h b = some (.rows 2 (l.map scV))) :
    Run tab 31 0 [.hs b 2 0 l.length, .int .i64 0, .int .i64 l.length, .fn 26 []] h n (fun r h' n' => ∃ d, r = .tup [] ∧ get h' b = some (.rows 2 (d.map scV)) ∧ (l ≠ [] → Sof l d l.length)) := by
  refine enter (F := f31) rfl rfl ?_
  simp only [f31, ex,reduceIte,reduceCtorEq,Nat.reduceEqDiff,Nat.reduceLT,Nat.reduceLeDiff,Nat.reduceAdd,Nat.reduceSub,Nat.reduceMul,Int.reduceAdd,Int.reduceSub,Int.reduceMul,Int.reduceNeg,Int.reduceLE,Int.reduceLT,Int.reduceEq,Int.reduceToNat]
  (try simp only [ex,reduceIte,reduceCtorEq,Nat.reduceEqDiff,Nat.reduceLT,Nat.reduceLeDiff,Nat.reduceAdd,Nat.reduceSub,Nat.reduceMul,Int.reduceAdd,Int.reduceSub,Int.reduceMul,Int.reduceNeg,Int.reduceLE,Int.reduceLT,Int.reduceEq,Int.reduceToNat]) <;> repeat ((with_reducible refine Req.intro ?_ ?_); (first | omega | (simp <;> omega)); try simp only [ex,reduceIte,reduceCtorEq,Nat.reduceEqDiff,Nat.reduceLT,Nat.reduceLeDiff,Nat.reduceAdd,Nat.reduceSub,Nat.reduceMul,Int.reduceAdd,Int.reduceSub,Int.reduceMul,Int.reduceNeg,Int.reduceLE,Int.reduceLT,Int.reduceEq,Int.reduceToNat])
  refine loopI fun L1 hL1 => ?_
  (try simp only [ex,reduceIte,reduceCtorEq,Nat.reduceEqDiff,Nat.reduceLT,Nat.reduceLeDiff,Nat.reduceAdd,Nat.reduceSub,Nat.reduceMul,Int.reduceAdd,Int.reduceSub,Int.reduceMul,Int.reduceNeg,Int.reduceLE,Int.reduceLT,Int.reduceEq,Int.reduceToNat]) <;> repeat ((with_reducible refine Req.intro ?_ ?_); (first | omega | (simp <;> omega)); try simp only [ex,reduceIte,reduceCtorEq,Nat.reduceEqDiff,Nat.reduceLT,Nat.reduceLeDiff,Nat.reduceAdd,Nat.reduceSub,Nat.reduceMul,Int.reduceAdd,Int.reduceSub,Int.reduceMul,Int.reduceNeg,Int.reduceLE,Int.reduceLT,Int.reduceEq,Int.reduceToNat])
  have key : ∀ (m i : Nat) (d : List Sc) (H : Heap) (c : Nat), 0 < i → (l ≠ [] → i + m = l.length) → (l = [] → m = 0) → get H b = some (.rows 2 (d.map scV)) → (l ≠ [] → Sof l d i) →
      L1 (L31_2 (.hs b 2 0 l.length) (.int .i64 0) (.int .i64 l.length) (.fn 26 []) (.int .i64 i) H c) := by
    intro m
    induction m with
    | zero =>
      intro i d H c h0 hi hi0 hg hsof
      have h1 : decide ((i : Int) < (l.length : Int)) = false := by
        rcases Classical.em (l = []) with e | e
        · rw [e]; simp
        · have := hi e; simp; omega
      apply hL1
      simp only [L31_2, l31_2, ex,reduceIte,reduceCtorEq,Nat.reduceEqDiff,Nat.reduceLT,Nat.reduceLeDiff,Nat.reduceAdd,Nat.reduceSub,Nat.reduceMul,Int.reduceAdd,Int.reduceSub,Int.reduceMul,Int.reduceNeg,Int.reduceLE,Int.reduceLT,Int.reduceEq,Int.reduceToNat]
      (try simp only [h1, ex,reduceIte,reduceCtorEq,Nat.reduceEqDiff,Nat.reduceLT,Nat.reduceLeDiff,Nat.reduceAdd,Nat.reduceSub,Nat.reduceMul,Int.reduceAdd,Int.reduceSub,Int.reduceMul,Int.reduceNeg,Int.reduceLE,Int.reduceLT,Int.reduceEq,Int.reduceToNat]) <;> repeat ((with_reducible refine Req.intro ?_ ?_); (first | omega | (simp <;> omega)); try simp only [h1, ex,reduceIte,reduceCtorEq,Nat.reduceEqDiff,Nat.reduceLT,Nat.reduceLeDiff,Nat.reduceAdd,Nat.reduceSub,Nat.reduceMul,Int.reduceAdd,Int.reduceSub,Int.reduceMul,Int.reduceNeg,Int.reduceLE,Int.reduceLT,Int.reduceEq,Int.reduceToNat])
      refine ⟨d, rfl, hg, fun e => ?_⟩
      have := hi e
      have h2 := hsof e
      rw [show l.length = i by omega]; exact h2
    | succ m ih =>
      intro i d H c h0 hi hi0 hg hsof
      have hne : l ≠ [] := fun e => by have := hi0 e; omega
      have hi := hi hne
      have hsof := hsof hne
      have hdl := hsof.len
      have h1 : decide ((i : Int) < (l.length : Int)) = true := by simp; omega
      have hx : d[i]? = some (d[i]'(by omega)) := List.getElem?_eq_getElem _
      generalize d[i]'(by omega) = x at hx
      have w0 : Way (d.take i) x (d.drop (i + 1)) d i := by
        obtain ⟨k1, k2⟩ := List.getElem?_eq_some_iff.1 hx
        refine ⟨by simp; omega, ?_, ?_⟩
        · rw [List.take_take, Nat.min_self, List.drop_of_length_le (by simp; omega), List.nil_append, ← k2, ← List.drop_eq_getElem_cons k1, List.take_append_drop]
        · rw [List.drop_of_length_le (by simp; omega)]; simp
      have hxs : x.2 ≤ 1000000 := hsof.sm x (List.mem_of_getElem? hx)
      have hPs : ∀ y ∈ d.take i, y.2 ≤ 1000000 := fun y hy => hsof.sm y (List.mem_of_mem_take hy)
      have fin := fun d' j (hw : Way (d.take i) x (d.drop (i + 1)) d' j) hst => Way.done hsof h0 hx hw hst
      have hPl : (d.take i).length = i := by simp; omega
      have hRl : (d.drop (i + 1)).length = l.length - (i + 1) := by simp; omega
      apply hL1
      simp only [L31_2, l31_2, ex,reduceIte,reduceCtorEq,Nat.reduceEqDiff,Nat.reduceLT,Nat.reduceLeDiff,Nat.reduceAdd,Nat.reduceSub,Nat.reduceMul,Int.reduceAdd,Int.reduceSub,Int.reduceMul,Int.reduceNeg,Int.reduceLE,Int.reduceLT,Int.reduceEq,Int.reduceToNat]
      (try simp only [h1, ex,reduceIte,reduceCtorEq,Nat.reduceEqDiff,Nat.reduceLT,Nat.reduceLeDiff,Nat.reduceAdd,Nat.reduceSub,Nat.reduceMul,Int.reduceAdd,Int.reduceSub,Int.reduceMul,Int.reduceNeg,Int.reduceLE,Int.reduceLT,Int.reduceEq,Int.reduceToNat]) <;> repeat ((with_reducible refine Req.intro ?_ ?_); (first | omega | (simp <;> omega)); try simp only [h1, ex,reduceIte,reduceCtorEq,Nat.reduceEqDiff,Nat.reduceLT,Nat.reduceLeDiff,Nat.reduceAdd,Nat.reduceSub,Nat.reduceMul,Int.reduceAdd,Int.reduceSub,Int.reduceMul,Int.reduceNeg,Int.reduceLE,Int.reduceLT,Int.reduceEq,Int.reduceToNat])
      refine loopI fun L2 hL2 => ?_
      (try simp only [ex,reduceIte,reduceCtorEq,Nat.reduceEqDiff,Nat.reduceLT,Nat.reduceLeDiff,Nat.reduceAdd,Nat.reduceSub,Nat.reduceMul,Int.reduceAdd,Int.reduceSub,Int.reduceMul,Int.reduceNeg,Int.reduceLE,Int.reduceLT,Int.reduceEq,Int.reduceToNat]) <;> repeat ((with_reducible refine Req.intro ?_ ?_); (first | omega | (simp <;> omega)); try simp only [ex,reduceIte,reduceCtorEq,Nat.reduceEqDiff,Nat.reduceLT,Nat.reduceLeDiff,Nat.reduceAdd,Nat.reduceSub,Nat.reduceMul,Int.reduceAdd,Int.reduceSub,Int.reduceMul,Int.reduceNeg,Int.reduceLE,Int.reduceLT,Int.reduceEq,Int.reduceToNat])
      generalize d.take i = P at *
      generalize d.drop (i + 1) = R at *
      have key2 : ∀ (j : Nat) (d' : List Sc) (H : Heap) (c : Nat), get H b = some (.rows 2 (d'.map scV)) → Way P x R d' j →
          L2 (L31_1 (.hs b 2 0 l.length) (.int .i64 0) (.int .i64 l.length) (.fn 26 []) (.int .i64 i) (.int .i64 j) H c) := by
        intro j
        induction j with
        | zero =>
          intro d' H c hg hw
          have k1 : decide (((0 : Nat) : Int) > 0) = false := by decide
          have h9 := fun c => ih (i + 1) d' H c (by omega) (fun _ => by omega) (fun e => absurd e hne) hg (fun _ => fin d' 0 hw (.inl rfl))
          apply hL2
          simp only [L31_1, l31_1, ex,reduceIte,reduceCtorEq,Nat.reduceEqDiff,Nat.reduceLT,Nat.reduceLeDiff,Nat.reduceAdd,Nat.reduceSub,Nat.reduceMul,Int.reduceAdd,Int.reduceSub,Int.reduceMul,Int.reduceNeg,Int.reduceLE,Int.reduceLT,Int.reduceEq,Int.reduceToNat]
          (try simp only [k1, ex,reduceIte,reduceCtorEq,Nat.reduceEqDiff,Nat.reduceLT,Nat.reduceLeDiff,Nat.reduceAdd,Nat.reduceSub,Nat.reduceMul,Int.reduceAdd,Int.reduceSub,Int.reduceMul,Int.reduceNeg,Int.reduceLE,Int.reduceLT,Int.reduceEq,Int.reduceToNat]) <;> repeat ((with_reducible refine Req.intro ?_ ?_); (first | omega | (simp <;> omega)); try simp only [k1, ex,reduceIte,reduceCtorEq,Nat.reduceEqDiff,Nat.reduceLT,Nat.reduceLeDiff,Nat.reduceAdd,Nat.reduceSub,Nat.reduceMul,Int.reduceAdd,Int.reduceSub,Int.reduceMul,Int.reduceNeg,Int.reduceLE,Int.reduceLT,Int.reduceEq,Int.reduceToNat])
          exact h9 _
        | succ j ih2 =>
          intro d' H c hg hw
          have hj := hw.jl
          have hy : P[j]? = some (P[j]'(by omega)) := List.getElem?_eq_getElem _
          have hym := hPs (P[j]'(by omega)) (List.getElem_mem _)
          generalize P[j]'(by omega) = y at hy hym
          have k1 : decide (((j + 1 : Nat) : Int) > 0) = true := by simp <;> omega
          have t1 : (((j + 1 : Nat) : Int) - 1).toNat = j := by omega
          have t2 : ((j + 1 : Nat) : Int) - 1 = (j : Int) := by omega
          have hwl : d'.length = l.length := by
            have := congrArg List.length hw.eq
            simp only [List.length_append, List.length_take, List.length_cons, List.length_drop] at this
            omega
          have g0 : d'[j + 1]? = some x ∧ d'[j]? = some y := by
            have l1 : (P.take j).length = j := by simp; omega
            have e1 : P.take (j + 1) = P.take j ++ [y] := by rw [List.take_add_one, hy]; rfl
            rw [hw.eq, e1, List.append_assoc]
            exact ⟨by rw [List.getElem?_append_right (by omega), l1]; simp, by rw [List.getElem?_append_right (by omega), l1]; simp⟩
          have gx := g0.1
          have gy := g0.2
          rcases Nat.lt_or_ge y.2 x.2 with q | q
          · have nx := hw.next hy q
            have h9 := fun H c hg => ih2 ((d'.set (j + 1) y).set j x) H c hg nx.2.2
            have k2 : decide (((y.2 : Nat) : Int) - ((x.2 : Nat) : Int) < 0) = true := by simp; omega
            have s1 : (d'.map scV).set (j + 1) (.agg [.int .i64 y.1, .int .i64 y.2]) = (d'.set (j + 1) y).map scV := by rw [List.map_set]; rfl
            have s2 : ((d'.set (j + 1) y).map scV).set j (.agg [.int .i64 x.1, .int .i64 x.2]) = ((d'.set (j + 1) y).set j x).map scV := by rw [List.map_set (l := d'.set (j + 1) y)]; rfl
            have g3 : (d'.set (j + 1) y)[j]? = some y := by rw [List.getElem?_set_ne (by omega), gy]
            apply hL2
            simp only [L31_1, l31_1, ex,reduceIte,reduceCtorEq,Nat.reduceEqDiff,Nat.reduceLT,Nat.reduceLeDiff,Nat.reduceAdd,Nat.reduceSub,Nat.reduceMul,Int.reduceAdd,Int.reduceSub,Int.reduceMul,Int.reduceNeg,Int.reduceLE,Int.reduceLT,Int.reduceEq,Int.reduceToNat]
            (try simp only [k1, t1, t2, hg, gx, gy, scV, ex,reduceIte,reduceCtorEq,Nat.reduceEqDiff,Nat.reduceLT,Nat.reduceLeDiff,Nat.reduceAdd,Nat.reduceSub,Nat.reduceMul,Int.reduceAdd,Int.reduceSub,Int.reduceMul,Int.reduceNeg,Int.reduceLE,Int.reduceLT,Int.reduceEq,Int.reduceToNat]) <;> repeat ((with_reducible refine Req.intro ?_ ?_); (first | omega | (simp <;> omega)); try simp only [k1, t1, t2, hg, gx, gy, scV, ex,reduceIte,reduceCtorEq,Nat.reduceEqDiff,Nat.reduceLT,Nat.reduceLeDiff,Nat.reduceAdd,Nat.reduceSub,Nat.reduceMul,Int.reduceAdd,Int.reduceSub,Int.reduceMul,Int.reduceNeg,Int.reduceLE,Int.reduceLT,Int.reduceEq,Int.reduceToNat])
            refine CallHD.any (cmp_spec x y H c hxs hym) ?_
            intro r h' n' hr
            have r1 := hr.1
            have r2 := hr.2.1
            clear hr
            (try simp only [r1, r2, k2, t1, t2, hg, gx, gy, scV, s1, s2, g3, get_set_same, ex,reduceIte,reduceCtorEq,Nat.reduceEqDiff,Nat.reduceLT,Nat.reduceLeDiff,Nat.reduceAdd,Nat.reduceSub,Nat.reduceMul,Int.reduceAdd,Int.reduceSub,Int.reduceMul,Int.reduceNeg,Int.reduceLE,Int.reduceLT,Int.reduceEq,Int.reduceToNat]) <;> repeat ((with_reducible refine Req.intro ?_ ?_); (first | omega | (simp <;> omega)); try simp only [r1, r2, k2, t1, t2, hg, gx, gy, scV, s1, s2, g3, get_set_same, ex,reduceIte,reduceCtorEq,Nat.reduceEqDiff,Nat.reduceLT,Nat.reduceLeDiff,Nat.reduceAdd,Nat.reduceSub,Nat.reduceMul,Int.reduceAdd,Int.reduceSub,Int.reduceMul,Int.reduceNeg,Int.reduceLE,Int.reduceLT,Int.reduceEq,Int.reduceToNat])
            exact h9 _ _ get_set_same
          · have k2 : decide (((y.2 : Nat) : Int) - ((x.2 : Nat) : Int) < 0) = false := by simp; omega
            have h9 := fun c => ih (i + 1) d' H c (by omega) (fun _ => by omega) (fun e => absurd e hne) hg (fun _ => fin d' (j + 1) hw (.inr ⟨y, by simpa using hy, q⟩))
            apply hL2
            simp only [L31_1, l31_1, ex,reduceIte,reduceCtorEq,Nat.reduceEqDiff,Nat.reduceLT,Nat.reduceLeDiff,Nat.reduceAdd,Nat.reduceSub,Nat.reduceMul,Int.reduceAdd,Int.reduceSub,Int.reduceMul,Int.reduceNeg,Int.reduceLE,Int.reduceLT,Int.reduceEq,Int.reduceToNat]
            (try simp only [k1, t1, t2, hg, gx, gy, scV, ex,reduceIte,reduceCtorEq,Nat.reduceEqDiff,Nat.reduceLT,Nat.reduceLeDiff,Nat.reduceAdd,Nat.reduceSub,Nat.reduceMul,Int.reduceAdd,Int.reduceSub,Int.reduceMul,Int.reduceNeg,Int.reduceLE,Int.reduceLT,Int.reduceEq,Int.reduceToNat]) <;> repeat ((with_reducible refine Req.intro ?_ ?_); (first | omega | (simp <;> omega)); try simp only [k1, t1, t2, hg, gx, gy, scV, ex,reduceIte,reduceCtorEq,Nat.reduceEqDiff,Nat.reduceLT,Nat.reduceLeDiff,Nat.reduceAdd,Nat.reduceSub,Nat.reduceMul,Int.reduceAdd,Int.reduceSub,Int.reduceMul,Int.reduceNeg,Int.reduceLE,Int.reduceLT,Int.reduceEq,Int.reduceToNat])
            refine CallHD.any (cmp_spec x y H c hxs hym) ?_
            intro r h' n' hr
            have r1 := hr.1
            have r2 := hr.2.1
            clear hr
            (try simp only [r1, r2, k2, ex,reduceIte,reduceCtorEq,Nat.reduceEqDiff,Nat.reduceLT,Nat.reduceLeDiff,Nat.reduceAdd,Nat.reduceSub,Nat.reduceMul,Int.reduceAdd,Int.reduceSub,Int.reduceMul,Int.reduceNeg,Int.reduceLE,Int.reduceLT,Int.reduceEq,Int.reduceToNat]) <;> repeat ((with_reducible refine Req.intro ?_ ?_); (first | omega | (simp <;> omega)); try simp only [r1, r2, k2, ex,reduceIte,reduceCtorEq,Nat.reduceEqDiff,Nat.reduceLT,Nat.reduceLeDiff,Nat.reduceAdd,Nat.reduceSub,Nat.reduceMul,Int.reduceAdd,Int.reduceSub,Int.reduceMul,Int.reduceNeg,Int.reduceLE,Int.reduceLT,Int.reduceEq,Int.reduceToNat])
            exact h9 _
      exact key2 i d H c hg w0
  refine key (l.length - 1) 1 l h n (by omega) (fun e => by have := List.length_pos_iff.2 e; omega) (fun e => by rw [e]; rfl) hb (fun e => ?_)
  have hp := List.length_pos_iff.2 e
  have g0 : l[0]? = some (l[0]'hp) := List.getElem?_eq_getElem _
  have ht : l.take 1 = [l[0]'hp] := by rw [List.take_add_one, g0]; rfl
  exact ⟨rfl, rfl, by rw [ht]; exact List.pairwise_singleton _ _, fun _ => by rw [ht, g0]; rfl, hs⟩
theorem stable_spec (b : Nat) (l : List Sc) (h : Heap) (n : Nat) (hl : l.length ≤ 19) (hs : ∀ p ∈ l, p.2 ≤ 1000000) (hb : get h b = some (.rows 2 (l.map scV))) :
    Run tab 29 0 [.hs b 2 0 l.length, .int .i64 l.length, .fn 26 []] h n (fun r h' n' => ∃ d, r = .tup [] ∧ get h' b = some (.rows 2 (d.map scV)) ∧ (l ≠ [] → Sof l d l.length)) := by
  refine enter (F := f29) rfl rfl ?_
  simp only [f29, ex,reduceIte,reduceCtorEq,Nat.reduceEqDiff,Nat.reduceLT,Nat.reduceLeDiff,Nat.reduceAdd,Nat.reduceSub,Nat.reduceMul,Int.reduceAdd,Int.reduceSub,Int.reduceMul,Int.reduceNeg,Int.reduceLE,Int.reduceLT,Int.reduceEq,Int.reduceToNat]
  have h1 : decide ((20 : Int) ≤ (l.length : Int)) = false := by simp; omega
  have h2 : decide ((20 : Int) < (l.length : Int)) = false := by simp; omega
  (try simp only [ex,reduceIte,reduceCtorEq,Nat.reduceEqDiff,Nat.reduceLT,Nat.reduceLeDiff,Nat.reduceAdd,Nat.reduceSub,Nat.reduceMul,Int.reduceAdd,Int.reduceSub,Int.reduceMul,Int.reduceNeg,Int.reduceLE,Int.reduceLT,Int.reduceEq,Int.reduceToNat]) <;> repeat ((with_reducible refine Req.intro ?_ ?_); (first | omega | (simp <;> omega)); try simp only [ex,reduceIte,reduceCtorEq,Nat.reduceEqDiff,Nat.reduceLT,Nat.reduceLeDiff,Nat.reduceAdd,Nat.reduceSub,Nat.reduceMul,Int.reduceAdd,Int.reduceSub,Int.reduceMul,Int.reduceNeg,Int.reduceLE,Int.reduceLT,Int.reduceEq,Int.reduceToNat])
  refine loopI fun L1 hL1 => ?_
  apply hL1
  simp only [l29_1, ex,reduceIte,reduceCtorEq,Nat.reduceEqDiff,Nat.reduceLT,Nat.reduceLeDiff,Nat.reduceAdd,Nat.reduceSub,Nat.reduceMul,Int.reduceAdd,Int.reduceSub,Int.reduceMul,Int.reduceNeg,Int.reduceLE,Int.reduceLT,Int.reduceEq,Int.reduceToNat]
  (try simp only [h1, ex,reduceIte,reduceCtorEq,Nat.reduceEqDiff,Nat.reduceLT,Nat.reduceLeDiff,Nat.reduceAdd,Nat.reduceSub,Nat.reduceMul,Int.reduceAdd,Int.reduceSub,Int.reduceMul,Int.reduceNeg,Int.reduceLE,Int.reduceLT,Int.reduceEq,Int.reduceToNat]) <;> repeat ((with_reducible refine Req.intro ?_ ?_); (first | omega | (simp <;> omega)); try simp only [h1, ex,reduceIte,reduceCtorEq,Nat.reduceEqDiff,Nat.reduceLT,Nat.reduceLeDiff,Nat.reduceAdd,Nat.reduceSub,Nat.reduceMul,Int.reduceAdd,Int.reduceSub,Int.reduceMul,Int.reduceNeg,Int.reduceLE,Int.reduceLT,Int.reduceEq,Int.reduceToNat])
  refine CallH.any (isort_spec b l h n (by omega) hs hb) ?_
  intro r h' n' hx
  have y := hx.choose_spec
  generalize hx.choose = d at y
  have y2 := y.2.1
  have y3 := y.2.2
  clear hx y
  (try simp only [ex,reduceIte,reduceCtorEq,Nat.reduceEqDiff,Nat.reduceLT,Nat.reduceLeDiff,Nat.reduceAdd,Nat.reduceSub,Nat.reduceMul,Int.reduceAdd,Int.reduceSub,Int.reduceMul,Int.reduceNeg,Int.reduceLE,Int.reduceLT,Int.reduceEq,Int.reduceToNat]) <;> repeat ((with_reducible refine Req.intro ?_ ?_); (first | omega | (simp <;> omega)); try simp only [ex,reduceIte,reduceCtorEq,Nat.reduceEqDiff,Nat.reduceLT,Nat.reduceLeDiff,Nat.reduceAdd,Nat.reduceSub,Nat.reduceMul,Int.reduceAdd,Int.reduceSub,Int.reduceMul,Int.reduceNeg,Int.reduceLE,Int.reduceLT,Int.reduceEq,Int.reduceToNat])
  refine loopI fun L3 hL3 => ?_
  apply hL3
  simp only [l29_3, ex,reduceIte,reduceCtorEq,Nat.reduceEqDiff,Nat.reduceLT,Nat.reduceLeDiff,Nat.reduceAdd,Nat.reduceSub,Nat.reduceMul,Int.reduceAdd,Int.reduceSub,Int.reduceMul,Int.reduceNeg,Int.reduceLE,Int.reduceLT,Int.reduceEq,Int.reduceToNat]
  (try simp only [h2, ex,reduceIte,reduceCtorEq,Nat.reduceEqDiff,Nat.reduceLT,Nat.reduceLeDiff,Nat.reduceAdd,Nat.reduceSub,Nat.reduceMul,Int.reduceAdd,Int.reduceSub,Int.reduceMul,Int.reduceNeg,Int.reduceLE,Int.reduceLT,Int.reduceEq,Int.reduceToNat]) <;> repeat ((with_reducible refine Req.intro ?_ ?_); (first | omega | (simp <;> omega)); try simp only [h2, ex,reduceIte,reduceCtorEq,Nat.reduceEqDiff,Nat.reduceLT,Nat.reduceLeDiff,Nat.reduceAdd,Nat.reduceSub,Nat.reduceMul,Int.reduceAdd,Int.reduceSub,Int.reduceMul,Int.reduceNeg,Int.reduceLE,Int.reduceLT,Int.reduceEq,Int.reduceToNat])
  exact ⟨d, rfl, y2, y3⟩
theorem sort_spec (b : Nat) (l : List Sc) (h : Heap) (n : Nat) (hl : l.length ≤ 19) (hs : ∀ p ∈ l, p.2 ≤ 1000000) (hb : get h b = some (.rows 2 (l.map scV))) :
    Run tab 25 0 [.hs b 2 0 l.length, .fn 26 []] h n (fun r h' n' => ∃ d, get h' b = some (.rows 2 (d.map scV)) ∧ (l ≠ [] → Sof l d l.length)) := by
  refine enter (F := f25) rfl rfl ?_
  simp only [f25, ex,reduceIte,reduceCtorEq,Nat.reduceEqDiff,Nat.reduceLT,Nat.reduceLeDiff,Nat.reduceAdd,Nat.reduceSub,Nat.reduceMul,Int.reduceAdd,Int.reduceSub,Int.reduceMul,Int.reduceNeg,Int.reduceLE,Int.reduceLT,Int.reduceEq,Int.reduceToNat]
  (try simp only [ex,reduceIte,reduceCtorEq,Nat.reduceEqDiff,Nat.reduceLT,Nat.reduceLeDiff,Nat.reduceAdd,Nat.reduceSub,Nat.reduceMul,Int.reduceAdd,Int.reduceSub,Int.reduceMul,Int.reduceNeg,Int.reduceLE,Int.reduceLT,Int.reduceEq,Int.reduceToNat]) <;> repeat ((with_reducible refine Req.intro ?_ ?_); (first | omega | (simp <;> omega)); try simp only [ex,reduceIte,reduceCtorEq,Nat.reduceEqDiff,Nat.reduceLT,Nat.reduceLeDiff,Nat.reduceAdd,Nat.reduceSub,Nat.reduceMul,Int.reduceAdd,Int.reduceSub,Int.reduceMul,Int.reduceNeg,Int.reduceLE,Int.reduceLT,Int.reduceEq,Int.reduceToNat])
  refine CallH.any (stable_spec b l h n hl hs hb) ?_
  intro r h' n' hx
  have y := hx.choose_spec
  generalize hx.choose = d at y
  have y2 := y.2.1
  have y3 := y.2.2
  clear hx y
  (try simp only [ex,reduceIte,reduceCtorEq,Nat.reduceEqDiff,Nat.reduceLT,Nat.reduceLeDiff,Nat.reduceAdd,Nat.reduceSub,Nat.reduceMul,Int.reduceAdd,Int.reduceSub,Int.reduceMul,Int.reduceNeg,Int.reduceLE,Int.reduceLT,Int.reduceEq,Int.reduceToNat]) <;> repeat ((with_reducible refine Req.intro ?_ ?_); (first | omega | (simp <;> omega)); try simp only [ex,reduceIte,reduceCtorEq,Nat.reduceEqDiff,Nat.reduceLT,Nat.reduceLeDiff,Nat.reduceAdd,Nat.reduceSub,Nat.reduceMul,Int.reduceAdd,Int.reduceSub,Int.reduceMul,Int.reduceNeg,Int.reduceLE,Int.reduceLT,Int.reduceEq,Int.reduceToNat])
  exact ⟨d, y2, y3⟩
end Go.Proofs.Ythphnacnjbcpiaa.E.Hs

/- simil.Best: walked. Conditions: none. -/
namespace Go.Proofs.Ythphnacnjbcpiaa.E.Hs
set_option linter.unusedVariables false
set_option linter.unusedSimpArgs false
set_option maxHeartbeats 20000000
set_option maxRecDepth 100000

theorem lnG_sum : ∀ (s cur : Sx), ((lnG cur s).map List.length).sum = cur.length + s.length
  | [], cur => by
    unfold lnG
    split
    · rename_i h; subst h; simp
    · simp
  | c :: s, cur => by
    unfold lnG
    split
    · simp only [List.map_cons, List.sum_cons, lnG_sum s []]; simp; omega
    · rw [lnG_sum s (cur ++ [c])]; simp; omega
theorem total_le (a : List Sx) : ∀ (l p : List Sx), total a p l ≤ (l.map List.length).sum
  | [], p => by simp [total]
  | x :: l, p => by
    have h1 := bring_le a p x
    have h2 := total_le a l (p ++ [x])
    simp only [total, List.map_cons, List.sum_cons]; omega
def comN (a b : Sx) : Nat := total (lns a) [] (lns b)
theorem comN_le (a b : Sx) : comN a b ≤ b.length := by
  have h1 := total_le (lns a) (lns b) []
  have h2 := lnG_sum b []
  simp only [List.length_nil, Nat.zero_add] at h2
  unfold comN lns at *
  omega
def scN (a b : Sx) : Nat := if max a.length b.length = 0 then 100 else 100 * comN a b / max a.length b.length
theorem scN_le (a b : Sx) : scN a b ≤ 100 := by
  unfold scN
  split
  · omega
  · rename_i h
    have := comN_le a b
    refine Nat.div_le_of_le_mul ?_
    have : comN a b ≤ max a.length b.length := by omega
    rw [Nat.mul_comm]
    exact Nat.mul_le_mul_right _ this
/-- The places with their scores. -/
def scs (a : Sx) (l : List Sx) : List Sc := l.zipIdx.map fun p => (p.2, scN a p.1)
theorem scs_snoc (a : Sx) (l : List Sx) (x : Sx) : scs a (l ++ [x]) = scs a l ++ [(l.length, scN a x)] := by
  unfold scs; rw [List.zipIdx_append]; simp
theorem scs_len (a : Sx) (l : List Sx) : (scs a l).length = l.length := by simp [scs]
theorem scs_sm (a : Sx) (l : List Sx) : ∀ p ∈ scs a l, p.2 ≤ 1000000 := by
  intro p hp
  obtain ⟨q, _, rfl⟩ := List.mem_map.1 hp
  have := scN_le a q.1
  simp only; omega
def hsS (b : Nat) (l : List Sc) : V := if l = [] then .hs 0 0 0 0 else .hs b 2 0 l.length
theorem hsS_clr (b : Nat) (l : List Sc) : clr (hsS b l) = hsS b l := by unfold hsS; split <;> rfl
theorem app_S {h : Heap} {b n : Nat} {out : List Sc} (r : Sc) {A B : Int} {w : Bool} {k : V × Heap × Nat → Prop} {t : Tag k} (hA : A = r.1) (hB : B = r.2) (hl : out.length ≤ 1000) (hg : out ≠ [] → get h b = some (.rows 2 (out.map scV))) :
    WK (hf (.appH 2 16) [hsS b out, .sl w 2 [.agg [.int .i64 A, .int .i64 B]]] h n) k t = k (hsS n (out ++ [r]), set (if out = [] then h else del h b) n (.rows 2 ((out ++ [r]).map scV)), 1) := by
  subst hA hB
  unfold hsS
  rw [if_neg (by simp : ¬ out ++ [r] = [])]
  by_cases c : out = []
  · subst c
    rw [if_pos rfl, if_pos rfl, hf_appL, appB_nil]
    simp [Req, scV, clr2, clr1]
  · rw [if_neg c, if_neg c, hf_appL, appB_put]
    rw [hg c]
    have e : (out.map scV).take out.length = out.map scV := List.take_of_length_le (by simp)
    simp only [WK_some, apB_rows, Req, scV, clr2, clr1, e, List.map_append, List.map_cons, List.map_nil, List.length_append, List.length_cons, List.length_nil, List.length_map, Nat.zero_add, true_and, Nat.le_refl, and_true, true_or]
    simp only [eq_iff_iff]
    exact ⟨fun h => h.2, fun h => ⟨by omega, h⟩⟩
theorem best_spec (o : Bool) (a : Sx) (l : List Sx) (ha : a.length ≤ 100000) (hl : l.length ≤ 12) (hs : ∀ x ∈ l, x.length ≤ 100000) :
    Run tab 19 0 [.str a, .sl o 1 (l.map .str)] [] 0 (fun r _ _ => (l = [] → r = .tup [.int .i64 (-1), .int .i64 0]) ∧ ∀ p, fmax (scs a l) = some p → r = .tup [.int .i64 p.1, .int .i64 p.2]) := by
  rcases Classical.em (l = []) with e | e
  · subst e
    refine enter (F := f19) rfl rfl ?_
    simp only [f19, ex,reduceIte,reduceCtorEq,Nat.reduceEqDiff,Nat.reduceLT,Nat.reduceLeDiff,Nat.reduceAdd,Nat.reduceSub,Nat.reduceMul,Int.reduceAdd,Int.reduceSub,Int.reduceMul,Int.reduceNeg,Int.reduceLE,Int.reduceLT,Int.reduceEq,Int.reduceToNat]
    have d : decide (((0 : Nat) : Int) = 0) = true := by decide
    (try simp only [d, ex,reduceIte,reduceCtorEq,Nat.reduceEqDiff,Nat.reduceLT,Nat.reduceLeDiff,Nat.reduceAdd,Nat.reduceSub,Nat.reduceMul,Int.reduceAdd,Int.reduceSub,Int.reduceMul,Int.reduceNeg,Int.reduceLE,Int.reduceLT,Int.reduceEq,Int.reduceToNat]) <;> repeat ((with_reducible refine Req.intro ?_ ?_); (first | omega | (simp <;> omega)); try simp only [d, ex,reduceIte,reduceCtorEq,Nat.reduceEqDiff,Nat.reduceLT,Nat.reduceLeDiff,Nat.reduceAdd,Nat.reduceSub,Nat.reduceMul,Int.reduceAdd,Int.reduceSub,Int.reduceMul,Int.reduceNeg,Int.reduceLE,Int.reduceLT,Int.reduceEq,Int.reduceToNat])
    exact ⟨fun _ => trivial, fun p hp => by simp [scs, fmax] at hp⟩
  · have hp0 := List.length_pos_iff.2 e
    have h1 : decide ((l.length : Int) = 0) = false := by simp; omega
    refine enter (F := f19) rfl rfl ?_
    simp only [f19, ex,reduceIte,reduceCtorEq,Nat.reduceEqDiff,Nat.reduceLT,Nat.reduceLeDiff,Nat.reduceAdd,Nat.reduceSub,Nat.reduceMul,Int.reduceAdd,Int.reduceSub,Int.reduceMul,Int.reduceNeg,Int.reduceLE,Int.reduceLT,Int.reduceEq,Int.reduceToNat]
    (try simp only [h1, ex,reduceIte,reduceCtorEq,Nat.reduceEqDiff,Nat.reduceLT,Nat.reduceLeDiff,Nat.reduceAdd,Nat.reduceSub,Nat.reduceMul,Int.reduceAdd,Int.reduceSub,Int.reduceMul,Int.reduceNeg,Int.reduceLE,Int.reduceLT,Int.reduceEq,Int.reduceToNat]) <;> repeat ((with_reducible refine Req.intro ?_ ?_); (first | omega | (simp <;> omega)); try simp only [h1, ex,reduceIte,reduceCtorEq,Nat.reduceEqDiff,Nat.reduceLT,Nat.reduceLeDiff,Nat.reduceAdd,Nat.reduceSub,Nat.reduceMul,Int.reduceAdd,Int.reduceSub,Int.reduceMul,Int.reduceNeg,Int.reduceLE,Int.reduceLT,Int.reduceEq,Int.reduceToNat])
    refine CallH.any (bag_spec a (by omega)) ?_
    intro r h n hx
    have y := hx.choose_spec
    generalize hx.choose = ma at y
    have y1 := y.1
    have y2 := y.2.1
    have y3 := y.2.2.1
    have y4 := y.2.2.2
    clear hx y
    have hnn : 0 + (n - 0) = 1 := by omega
    (try simp only [y1, y2, hnn, ex,reduceIte,reduceCtorEq,Nat.reduceEqDiff,Nat.reduceLT,Nat.reduceLeDiff,Nat.reduceAdd,Nat.reduceSub,Nat.reduceMul,Int.reduceAdd,Int.reduceSub,Int.reduceMul,Int.reduceNeg,Int.reduceLE,Int.reduceLT,Int.reduceEq,Int.reduceToNat]) <;> repeat ((with_reducible refine Req.intro ?_ ?_); (first | omega | (simp <;> omega)); try simp only [y1, y2, hnn, ex,reduceIte,reduceCtorEq,Nat.reduceEqDiff,Nat.reduceLT,Nat.reduceLeDiff,Nat.reduceAdd,Nat.reduceSub,Nat.reduceMul,Int.reduceAdd,Int.reduceSub,Int.reduceMul,Int.reduceNeg,Int.reduceLE,Int.reduceLT,Int.reduceEq,Int.reduceToNat])
    refine loopI fun L hL => ?_
    (try simp only [ex,reduceIte,reduceCtorEq,Nat.reduceEqDiff,Nat.reduceLT,Nat.reduceLeDiff,Nat.reduceAdd,Nat.reduceSub,Nat.reduceMul,Int.reduceAdd,Int.reduceSub,Int.reduceMul,Int.reduceNeg,Int.reduceLE,Int.reduceLT,Int.reduceEq,Int.reduceToNat]) <;> repeat ((with_reducible refine Req.intro ?_ ?_); (first | omega | (simp <;> omega)); try simp only [ex,reduceIte,reduceCtorEq,Nat.reduceEqDiff,Nat.reduceLT,Nat.reduceLeDiff,Nat.reduceAdd,Nat.reduceSub,Nat.reduceMul,Int.reduceAdd,Int.reduceSub,Int.reduceMul,Int.reduceNeg,Int.reduceLE,Int.reduceLT,Int.reduceEq,Int.reduceToNat])
    have hla := lns_len a
    have key : ∀ (m i bk : Nat) (H : Heap) (c : Nat), i + m = l.length → get H 0 = some (.map (emb ma)) → 0 < bk → bk ≤ c → 0 < c → (scs a (l.take i) ≠ [] → get H bk = some (.rows 2 ((scs a (l.take i)).map scV)) ∧ bk < c) →
        L (L19_1 (.str a) (.hm 0) (hsS bk (scs a (l.take i))) (.sl o 1 (l.map .str)) (.int .i64 l.length) (.int .i64 i) H c) := by
      intro m
      induction m with
      | zero =>
        intro i bk H c hi hg hb0 hbc hc0 hbk
        have h2 : decide ((i : Int) < (l.length : Int)) = false := by simp; omega
        have ht : l.take i = l := List.take_of_length_le (by omega)
        have hne : scs a l ≠ [] := fun e2 => by have := scs_len a l; rw [e2] at this; simp at this; omega
        rw [ht] at hbk
        have hb := hbk hne
        have hsl := scs_len a l
        have hsm := scs_sm a l
        have e0 : hsS bk (scs a l) = .hs bk 2 0 (scs a l).length := by unfold hsS; rw [if_neg hne]
        apply hL
        simp only [L19_1, l19_1, ex,reduceIte,reduceCtorEq,Nat.reduceEqDiff,Nat.reduceLT,Nat.reduceLeDiff,Nat.reduceAdd,Nat.reduceSub,Nat.reduceMul,Int.reduceAdd,Int.reduceSub,Int.reduceMul,Int.reduceNeg,Int.reduceLE,Int.reduceLT,Int.reduceEq,Int.reduceToNat]
        rw [ht]
        (try simp only [h2, e0, ex,reduceIte,reduceCtorEq,Nat.reduceEqDiff,Nat.reduceLT,Nat.reduceLeDiff,Nat.reduceAdd,Nat.reduceSub,Nat.reduceMul,Int.reduceAdd,Int.reduceSub,Int.reduceMul,Int.reduceNeg,Int.reduceLE,Int.reduceLT,Int.reduceEq,Int.reduceToNat]) <;> repeat ((with_reducible refine Req.intro ?_ ?_); (first | omega | (simp <;> omega)); try simp only [h2, e0, ex,reduceIte,reduceCtorEq,Nat.reduceEqDiff,Nat.reduceLT,Nat.reduceLeDiff,Nat.reduceAdd,Nat.reduceSub,Nat.reduceMul,Int.reduceAdd,Int.reduceSub,Int.reduceMul,Int.reduceNeg,Int.reduceLE,Int.reduceLT,Int.reduceEq,Int.reduceToNat])
        refine CallH.any (sort_spec bk (scs a l) H c (by omega) hsm hb.1) ?_
        intro r' h' n' hx
        have y := hx.choose_spec
        generalize hx.choose = d at y
        have z1 := y.1
        have z2 := y.2 hne
        clear hx y
        have zh := z2.head (by omega)
        rw [List.take_of_length_le (by omega)] at zh
        have zl := z2.len
        have d0 : d[0]? = some (d[0]'(by omega)) := List.getElem?_eq_getElem _
        generalize d[0]'(by omega) = p at d0
        (try simp only [z1, d0, scV, ex,reduceIte,reduceCtorEq,Nat.reduceEqDiff,Nat.reduceLT,Nat.reduceLeDiff,Nat.reduceAdd,Nat.reduceSub,Nat.reduceMul,Int.reduceAdd,Int.reduceSub,Int.reduceMul,Int.reduceNeg,Int.reduceLE,Int.reduceLT,Int.reduceEq,Int.reduceToNat]) <;> repeat ((with_reducible refine Req.intro ?_ ?_); (first | omega | (simp <;> omega)); try simp only [z1, d0, scV, ex,reduceIte,reduceCtorEq,Nat.reduceEqDiff,Nat.reduceLT,Nat.reduceLeDiff,Nat.reduceAdd,Nat.reduceSub,Nat.reduceMul,Int.reduceAdd,Int.reduceSub,Int.reduceMul,Int.reduceNeg,Int.reduceLE,Int.reduceLT,Int.reduceEq,Int.reduceToNat])
        refine ⟨fun e3 => absurd e3 e, fun q hq => ?_⟩
        rw [← zh, d0] at hq
        injection hq with hq
        rw [hq]
      | succ m ih =>
        intro i bk H c hi hg hb0 hbc hc0 hbk
        have h2 : decide ((i : Int) < (l.length : Int)) = true := by simp; omega
        have g1 : l[i]? = some (l[i]'(by omega)) := List.getElem?_eq_getElem _
        have hxs := hs (l[i]'(by omega)) (List.getElem_mem _)
        have ht : l.take (i + 1) = l.take i ++ [l[i]'(by omega)] := by rw [List.take_add_one, g1]; rfl
        generalize l[i]'(by omega) = x at *
        have hlen : (l.take i).length = i := by simp; omega
        have hsn : scs a (l.take (i + 1)) = scs a (l.take i) ++ [(i, scN a x)] := by rw [ht, scs_snoc, hlen]
        have hsl := scs_len a (l.take i)
        have hcl := comN_le a x
        apply hL
        simp only [L19_1, l19_1, ex,reduceIte,reduceCtorEq,Nat.reduceEqDiff,Nat.reduceLT,Nat.reduceLeDiff,Nat.reduceAdd,Nat.reduceSub,Nat.reduceMul,Int.reduceAdd,Int.reduceSub,Int.reduceMul,Int.reduceNeg,Int.reduceLE,Int.reduceLT,Int.reduceEq,Int.reduceToNat]
        (try simp only [h2, g1, hsS_clr, ex,reduceIte,reduceCtorEq,Nat.reduceEqDiff,Nat.reduceLT,Nat.reduceLeDiff,Nat.reduceAdd,Nat.reduceSub,Nat.reduceMul,Int.reduceAdd,Int.reduceSub,Int.reduceMul,Int.reduceNeg,Int.reduceLE,Int.reduceLT,Int.reduceEq,Int.reduceToNat]) <;> repeat ((with_reducible refine Req.intro ?_ ?_); (first | omega | (simp <;> omega)); try simp only [h2, g1, hsS_clr, ex,reduceIte,reduceCtorEq,Nat.reduceEqDiff,Nat.reduceLT,Nat.reduceLeDiff,Nat.reduceAdd,Nat.reduceSub,Nat.reduceMul,Int.reduceAdd,Int.reduceSub,Int.reduceMul,Int.reduceNeg,Int.reduceLE,Int.reduceLT,Int.reduceEq,Int.reduceToNat])
        refine CallH.any (common_spec (lns a) ma x H c 0 hxs (by omega) hg hc0 y4) ?_
        intro r' h' n' hx
        have z1 := hx.1
        have z2 := hx.2.1
        have z3 := hx.2.2
        clear hx
        have hcm : total (lns a) [] (lns x) = comN a x := rfl
        rw [hcm] at z1
        (try simp only [z1, ex,reduceIte,reduceCtorEq,Nat.reduceEqDiff,Nat.reduceLT,Nat.reduceLeDiff,Nat.reduceAdd,Nat.reduceSub,Nat.reduceMul,Int.reduceAdd,Int.reduceSub,Int.reduceMul,Int.reduceNeg,Int.reduceLE,Int.reduceLT,Int.reduceEq,Int.reduceToNat]) <;> repeat ((with_reducible refine Req.intro ?_ ?_); (first | omega | (simp <;> omega)); try simp only [z1, ex,reduceIte,reduceCtorEq,Nat.reduceEqDiff,Nat.reduceLT,Nat.reduceLeDiff,Nat.reduceAdd,Nat.reduceSub,Nat.reduceMul,Int.reduceAdd,Int.reduceSub,Int.reduceMul,Int.reduceNeg,Int.reduceLE,Int.reduceLT,Int.reduceEq,Int.reduceToNat])
        refine CallA.eq rfl (score_spec a.length x.length (comN a x) (by omega) (by omega) (by omega)) rfl ?_
        have hsc : (if max a.length x.length = 0 then 100 else (100 * comN a x / max a.length x.length : Nat)) = scN a x := rfl
        rw [hsc]
        have hg' : scs a (l.take i) ≠ [] → get h' bk = some (.rows 2 ((scs a (l.take i)).map scV)) := fun e2 => by rw [z3 _ (hbk e2).2]; exact (hbk e2).1
        have aS := fun w c k t => app_S (h := h') (b := bk) (n := c) (out := scs a (l.take i)) ((i, scN a x) : Sc) (A := (i : Int)) (B := (scN a x : Int)) (w := w) (k := k) (t := t) rfl rfl (by omega) hg'
        have k9 := ih (i + 1) (c + (n' - c)) (set (if scs a (l.take i) = [] then h' else del h' bk) (c + (n' - c)) (.rows 2 ((scs a (l.take i) ++ [(i, scN a x)]).map scV))) (c + (n' - c) + 1) (by omega) (by
          rw [get_set_other (by omega)]
          split
          · rw [z3 0 hc0]; exact hg
          · rw [get_del_other1 _ (by omega), z3 0 hc0]; exact hg) (by omega) (by omega) (by omega) (fun _ => ⟨by rw [hsn]; exact get_set_same, by omega⟩)
        rw [hsn] at k9
        (try simp only [hsS_clr, aS, ex,reduceIte,reduceCtorEq,Nat.reduceEqDiff,Nat.reduceLT,Nat.reduceLeDiff,Nat.reduceAdd,Nat.reduceSub,Nat.reduceMul,Int.reduceAdd,Int.reduceSub,Int.reduceMul,Int.reduceNeg,Int.reduceLE,Int.reduceLT,Int.reduceEq,Int.reduceToNat]) <;> repeat ((with_reducible refine Req.intro ?_ ?_); (first | omega | (simp <;> omega)); try simp only [hsS_clr, aS, ex,reduceIte,reduceCtorEq,Nat.reduceEqDiff,Nat.reduceLT,Nat.reduceLeDiff,Nat.reduceAdd,Nat.reduceSub,Nat.reduceMul,Int.reduceAdd,Int.reduceSub,Int.reduceMul,Int.reduceNeg,Int.reduceLE,Int.reduceLT,Int.reduceEq,Int.reduceToNat])
        exact k9
    have k0 := key l.length 0 1 [(0, .map (emb ma))] 1 (Nat.zero_add _) rfl (by omega) (by omega) (by omega) (fun e2 => by simp [scs] at e2)
    rw [List.take_zero, show scs a [] = [] from rfl, show hsS 1 [] = .hs 0 0 0 0 from rfl] at k0
    exact k0
end Go.Proofs.Ythphnacnjbcpiaa.E.Hs

/- The reference's times, Common, Score: walked. Conditions: none. -/
namespace Go.Proofs.Ythphnacnjbcpiaa.E.Hs
set_option linter.unusedVariables false
set_option linter.unusedSimpArgs false
set_option maxHeartbeats 20000000
set_option maxRecDepth 100000

theorem times_spec (o : Bool) (l : List Sx) (s : Sx) (hl : l.length ≤ 1000000) : Run tab 24 0 [.sl o 1 (l.map .str), .str s] [] 0 (fun r _ _ => r = .int .i64 (l.count s : Nat)) := by
  refine enter (F := f24) rfl rfl ?_
  simp only [f24, ex,reduceIte,reduceCtorEq,Nat.reduceEqDiff,Nat.reduceLT,Nat.reduceLeDiff,Nat.reduceAdd,Nat.reduceSub,Nat.reduceMul,Int.reduceAdd,Int.reduceSub,Int.reduceMul,Int.reduceNeg,Int.reduceLE,Int.reduceLT,Int.reduceEq,Int.reduceToNat]
  (try simp only [ex,reduceIte,reduceCtorEq,Nat.reduceEqDiff,Nat.reduceLT,Nat.reduceLeDiff,Nat.reduceAdd,Nat.reduceSub,Nat.reduceMul,Int.reduceAdd,Int.reduceSub,Int.reduceMul,Int.reduceNeg,Int.reduceLE,Int.reduceLT,Int.reduceEq,Int.reduceToNat]) <;> repeat ((with_reducible refine Req.intro ?_ ?_); (first | omega | (simp <;> omega)); try simp only [ex,reduceIte,reduceCtorEq,Nat.reduceEqDiff,Nat.reduceLT,Nat.reduceLeDiff,Nat.reduceAdd,Nat.reduceSub,Nat.reduceMul,Int.reduceAdd,Int.reduceSub,Int.reduceMul,Int.reduceNeg,Int.reduceLE,Int.reduceLT,Int.reduceEq,Int.reduceToNat])
  refine loopI fun L hL => ?_
  (try simp only [ex,reduceIte,reduceCtorEq,Nat.reduceEqDiff,Nat.reduceLT,Nat.reduceLeDiff,Nat.reduceAdd,Nat.reduceSub,Nat.reduceMul,Int.reduceAdd,Int.reduceSub,Int.reduceMul,Int.reduceNeg,Int.reduceLE,Int.reduceLT,Int.reduceEq,Int.reduceToNat]) <;> repeat ((with_reducible refine Req.intro ?_ ?_); (first | omega | (simp <;> omega)); try simp only [ex,reduceIte,reduceCtorEq,Nat.reduceEqDiff,Nat.reduceLT,Nat.reduceLeDiff,Nat.reduceAdd,Nat.reduceSub,Nat.reduceMul,Int.reduceAdd,Int.reduceSub,Int.reduceMul,Int.reduceNeg,Int.reduceLE,Int.reduceLT,Int.reduceEq,Int.reduceToNat])
  have key : ∀ m i : Nat, i + m = l.length → L (L24_1 (.sl o 1 (l.map .str)) (.str s) (.int .i64 ((l.take i).count s : Nat)) (.int .i64 l.length) (.int .i64 i) [] 0) := by
    intro m
    induction m with
    | zero =>
      intro i hi
      have h1 : decide ((i : Int) < (l.length : Int)) = false := by simp; omega
      apply hL
      simp only [L24_1, l24_1, ex,reduceIte,reduceCtorEq,Nat.reduceEqDiff,Nat.reduceLT,Nat.reduceLeDiff,Nat.reduceAdd,Nat.reduceSub,Nat.reduceMul,Int.reduceAdd,Int.reduceSub,Int.reduceMul,Int.reduceNeg,Int.reduceLE,Int.reduceLT,Int.reduceEq,Int.reduceToNat]
      (try simp only [h1, ex,reduceIte,reduceCtorEq,Nat.reduceEqDiff,Nat.reduceLT,Nat.reduceLeDiff,Nat.reduceAdd,Nat.reduceSub,Nat.reduceMul,Int.reduceAdd,Int.reduceSub,Int.reduceMul,Int.reduceNeg,Int.reduceLE,Int.reduceLT,Int.reduceEq,Int.reduceToNat]) <;> repeat ((with_reducible refine Req.intro ?_ ?_); (first | omega | (simp <;> omega)); try simp only [h1, ex,reduceIte,reduceCtorEq,Nat.reduceEqDiff,Nat.reduceLT,Nat.reduceLeDiff,Nat.reduceAdd,Nat.reduceSub,Nat.reduceMul,Int.reduceAdd,Int.reduceSub,Int.reduceMul,Int.reduceNeg,Int.reduceLE,Int.reduceLT,Int.reduceEq,Int.reduceToNat])
      rw [List.take_of_length_le (by omega)]
    | succ m ih =>
      intro i hi
      have h1 : decide ((i : Int) < (l.length : Int)) = true := by simp; omega
      have g1 : l[i]? = some (l[i]'(by omega)) := List.getElem?_eq_getElem _
      have h9 := ih (i + 1) (by omega)
      rw [List.take_add_one, g1, List.count_append] at h9
      generalize l[i]'(by omega) = x at *
      have hc := cnt_le (l.take i) s
      have hc2 : (l.take i).length ≤ l.length := by simp; omega
      rcases Classical.em (x = s) with e | e
      · have h2 : decide (x = s) = true := by simpa using e
        rw [e, show (some s).toList.count s = 1 by simp] at h9
        apply hL
        simp only [L24_1, l24_1, ex,reduceIte,reduceCtorEq,Nat.reduceEqDiff,Nat.reduceLT,Nat.reduceLeDiff,Nat.reduceAdd,Nat.reduceSub,Nat.reduceMul,Int.reduceAdd,Int.reduceSub,Int.reduceMul,Int.reduceNeg,Int.reduceLE,Int.reduceLT,Int.reduceEq,Int.reduceToNat]
        (try simp only [h1, g1, h2, ex,reduceIte,reduceCtorEq,Nat.reduceEqDiff,Nat.reduceLT,Nat.reduceLeDiff,Nat.reduceAdd,Nat.reduceSub,Nat.reduceMul,Int.reduceAdd,Int.reduceSub,Int.reduceMul,Int.reduceNeg,Int.reduceLE,Int.reduceLT,Int.reduceEq,Int.reduceToNat]) <;> repeat ((with_reducible refine Req.intro ?_ ?_); (first | omega | (simp <;> omega)); try simp only [h1, g1, h2, ex,reduceIte,reduceCtorEq,Nat.reduceEqDiff,Nat.reduceLT,Nat.reduceLeDiff,Nat.reduceAdd,Nat.reduceSub,Nat.reduceMul,Int.reduceAdd,Int.reduceSub,Int.reduceMul,Int.reduceNeg,Int.reduceLE,Int.reduceLT,Int.reduceEq,Int.reduceToNat])
        exact h9
      · have h2 : decide (x = s) = false := by simpa using e
        rw [show (some x).toList.count s = 0 by simp [List.count_singleton, e], Nat.add_zero] at h9
        apply hL
        simp only [L24_1, l24_1, ex,reduceIte,reduceCtorEq,Nat.reduceEqDiff,Nat.reduceLT,Nat.reduceLeDiff,Nat.reduceAdd,Nat.reduceSub,Nat.reduceMul,Int.reduceAdd,Int.reduceSub,Int.reduceMul,Int.reduceNeg,Int.reduceLE,Int.reduceLT,Int.reduceEq,Int.reduceToNat]
        (try simp only [h1, g1, h2, ex,reduceIte,reduceCtorEq,Nat.reduceEqDiff,Nat.reduceLT,Nat.reduceLeDiff,Nat.reduceAdd,Nat.reduceSub,Nat.reduceMul,Int.reduceAdd,Int.reduceSub,Int.reduceMul,Int.reduceNeg,Int.reduceLE,Int.reduceLT,Int.reduceEq,Int.reduceToNat]) <;> repeat ((with_reducible refine Req.intro ?_ ?_); (first | omega | (simp <;> omega)); try simp only [h1, g1, h2, ex,reduceIte,reduceCtorEq,Nat.reduceEqDiff,Nat.reduceLT,Nat.reduceLeDiff,Nat.reduceAdd,Nat.reduceSub,Nat.reduceMul,Int.reduceAdd,Int.reduceSub,Int.reduceMul,Int.reduceNeg,Int.reduceLE,Int.reduceLT,Int.reduceEq,Int.reduceToNat])
        exact h9
  exact key l.length 0 (Nat.zero_add _)
/-- What the reference counts as common. -/
def rcom (x y : List Sx) : List Sx → List Sx → Nat
  | p, [] => 0
  | p, z :: r => (if p.count z = 0 then z.length * min (x.count z) (y.count z) else 0) + rcom x y (p ++ [z]) r
end Go.Proofs.Ythphnacnjbcpiaa.E.Hs

/- Both ways to count what two texts have in common are one: plain lists. Conditions: none. -/
namespace Go.Proofs.Ythphnacnjbcpiaa.E.Hs
set_option linter.unusedVariables false
set_option linter.unusedSimpArgs false
set_option maxHeartbeats 20000000

/-- Weigh each line of a list without repeats. -/
def wsum (D : List Sx) (f : Sx → Nat) : Nat := (D.map fun x => x.length * f x).sum
theorem wsum_congr {D : List Sx} {f g : Sx → Nat} (h : ∀ x ∈ D, f x = g x) : wsum D f = wsum D g := by
  unfold wsum
  rw [List.map_congr_left fun x hx => by rw [h x hx]]
theorem wsum_bump {D : List Sx} {f : Sx → Nat} {z : Sx} (hn : D.Nodup) (hz : z ∈ D) (k : Nat) : wsum D (fun x => if x = z then f x + k else f x) = wsum D f + z.length * k := by
  induction D with
  | nil => simp at hz
  | cons y D ih =>
    simp only [wsum, List.map_cons, List.sum_cons] at *
    have hn2 := List.nodup_cons.1 hn
    rcases List.mem_cons.1 hz with rfl | hz
    · rw [if_pos rfl, Nat.mul_add]
      have : (D.map fun x => x.length * (if x = z then f x + k else f x)) = D.map fun x => x.length * f x := List.map_congr_left fun x hx => by
        rw [if_neg (fun e => hn2.1 (by rw [← e]; exact hx))]
      rw [this]; omega
    · rw [if_neg (fun e => hn2.1 (by rw [e]; exact hz)), ih hn2.2 hz]; omega
/-- What has come so far. -/
theorem total_w (a : List Sx) (D : List Sx) (hn : D.Nodup) : ∀ (r p : List Sx), (∀ x ∈ p ++ r, x ∈ D) → total a p r + wsum D (fun x => min (a.count x) (p.count x)) = wsum D (fun x => min (a.count x) ((p ++ r).count x))
  | [], p, h => by simp [total]
  | x :: r, p, h => by
    have ih := total_w a D hn r (p ++ [x]) (by simpa using h)
    rw [show p ++ [x] ++ r = p ++ x :: r by simp] at ih
    rw [← ih, total]
    have hx : x ∈ D := h x (by simp)
    have e : wsum D (fun y => min (a.count y) ((p ++ [x]).count y)) = wsum D (fun y => if y = x then min (a.count y) (p.count y) + (if a.count x < p.count x + 1 then 0 else 1) else min (a.count y) (p.count y)) := wsum_congr fun y _ => by
      rw [List.count_append, List.count_singleton]
      by_cases q : y = x
      · subst q
        rw [if_pos rfl, if_pos (by simp)]
        split <;> omega
      · rw [if_neg q, if_neg (by simpa using fun e' => q e'.symm), Nat.add_zero]
    rw [e, wsum_bump hn hx]
    unfold bring
    split <;> simp <;> omega
/-- The lines, each once. -/
def once1 : List Sx → List Sx → List Sx
  | p, [] => []
  | p, z :: r => if p.count z = 0 then z :: once1 (p ++ [z]) r else once1 (p ++ [z]) r
theorem once1_mem : ∀ (r p : List Sx) (x : Sx), x ∈ once1 p r ↔ x ∈ r ∧ x ∉ p
  | [], p, x => by simp [once1]
  | z :: r, p, x => by
    have ih := once1_mem r (p ++ [z]) x
    unfold once1
    by_cases c : p.count z = 0
    · rw [if_pos c, List.mem_cons, ih]
      have hz : z ∉ p := List.count_eq_zero.1 c
      by_cases e : x = z
      · subst e; simp [hz]
      · simp [e]
    · rw [if_neg c, ih]
      have hz : z ∈ p := by
        rcases Classical.em (z ∈ p) with h | h
        · exact h
        · exact absurd (List.count_eq_zero.2 h) c
      by_cases e : x = z
      · subst e; simp [hz]
      · simp [e]
theorem once1_nodup : ∀ (r p : List Sx), (once1 p r).Nodup
  | [], p => by simp [once1]
  | z :: r, p => by
    unfold once1
    split
    · refine List.nodup_cons.2 ⟨fun h => ?_, once1_nodup r _⟩
      have := ((once1_mem r (p ++ [z]) z).1 h).2
      simp at this
    · exact once1_nodup r _
theorem rcom_w (x y : List Sx) : ∀ (r p : List Sx), rcom x y p r = wsum (once1 p r) (fun z => min (x.count z) (y.count z))
  | [], p => by simp [rcom, once1, wsum]
  | z :: r, p => by
    rw [rcom, once1, rcom_w x y r (p ++ [z])]
    split
    · simp [wsum]
    · simp
theorem wsum_more {D E : List Sx} {f : Sx → Nat} (hD : D.Nodup) (hE : E.Nodup) (h : ∀ x, f x ≠ 0 → (x ∈ D ↔ x ∈ E)) : wsum D f = wsum E f := by
  have h1 : ∀ L : List Sx, wsum L f = wsum (L.filter fun x => decide (f x ≠ 0)) f := fun L => by
    induction L with
    | nil => rfl
    | cons y L ih =>
      by_cases c : f y = 0
      · rw [List.filter_cons, if_neg (by simp [c])]
        simp only [wsum, List.map_cons, List.sum_cons, c, Nat.mul_zero, Nat.zero_add] at ih ⊢
        exact ih
      · rw [List.filter_cons, if_pos (by simp [c])]
        simp only [wsum, List.map_cons, List.sum_cons] at ih ⊢
        rw [ih]
  rw [h1 D, h1 E]
  have hp : (D.filter fun x => decide (f x ≠ 0)).Perm (E.filter fun x => decide (f x ≠ 0)) := by
    refine (List.perm_ext_iff_of_nodup (hD.filter _) (hE.filter _)).2 fun x => ?_
    simp only [List.mem_filter, decide_eq_true_iff]
    constructor
    · rintro ⟨q1, q2⟩; exact ⟨(h x q2).1 q1, q2⟩
    · rintro ⟨q1, q2⟩; exact ⟨(h x q2).2 q1, q2⟩
  exact (hp.map _).sum_nat
theorem commons_same (x y : List Sx) : rcom x y [] x = total x [] y := by
  rw [rcom_w]
  have h1 := total_w x (once1 [] y) (once1_nodup y []) y [] (fun z hz => (once1_mem y [] z).2 ⟨by simpa using hz, by simp⟩)
  have h0 : wsum (once1 [] y) (fun z => min (x.count z) (([] : List Sx).count z)) = 0 := by
    generalize once1 [] y = L
    unfold wsum
    induction L with
    | nil => rfl
    | cons z L ih => simp only [List.map_cons, List.sum_cons, ih]; simp
  rw [h0, Nat.add_zero, List.nil_append] at h1
  rw [h1]
  refine wsum_more (once1_nodup x []) (once1_nodup y []) fun z hz => ?_
  have c1 : x.count z ≠ 0 := by omega
  have c2 : y.count z ≠ 0 := by omega
  have m1 : z ∈ x := by
    rcases Classical.em (z ∈ x) with h | h
    · exact h
    · exact absurd (List.count_eq_zero.2 h) c1
  have m2 : z ∈ y := by
    rcases Classical.em (z ∈ y) with h | h
    · exact h
    · exact absurd (List.count_eq_zero.2 h) c2
  rw [once1_mem, once1_mem]
  simp [m1, m2]
end Go.Proofs.Ythphnacnjbcpiaa.E.Hs

/- The reference's Common and Score: walked. Conditions: none. -/
namespace Go.Proofs.Ythphnacnjbcpiaa.E.Hs
set_option linter.unusedVariables false
set_option linter.unusedSimpArgs false
set_option maxHeartbeats 20000000
set_option maxRecDepth 100000

theorem rcommon_spec (a b : Sx) (ha : a.length ≤ 3000) (hb : b.length ≤ 3000) : Run tab 15 0 [.str a, .str b] [] 0 (fun r _ _ => r = .int .i64 (comN a b : Nat)) := by
  have hcm : rcom (lns a) (lns b) [] (lns a) = comN a b := commons_same (lns a) (lns b)
  have hla := lns_len a
  have hlb := lns_len b
  have hli := lnG_line a []
  simp only [List.length_nil, Nat.zero_add] at hli
  have hli : ∀ x ∈ lns a, x.length ≤ a.length := hli
  rw [← hcm]
  clear hcm
  refine enter (F := f15) rfl rfl ?_
  simp only [f15, ex,reduceIte,reduceCtorEq,Nat.reduceEqDiff,Nat.reduceLT,Nat.reduceLeDiff,Nat.reduceAdd,Nat.reduceSub,Nat.reduceMul,Int.reduceAdd,Int.reduceSub,Int.reduceMul,Int.reduceNeg,Int.reduceLE,Int.reduceLT,Int.reduceEq,Int.reduceToNat]
  (try simp only [ex,reduceIte,reduceCtorEq,Nat.reduceEqDiff,Nat.reduceLT,Nat.reduceLeDiff,Nat.reduceAdd,Nat.reduceSub,Nat.reduceMul,Int.reduceAdd,Int.reduceSub,Int.reduceMul,Int.reduceNeg,Int.reduceLE,Int.reduceLT,Int.reduceEq,Int.reduceToNat]) <;> repeat ((with_reducible refine Req.intro ?_ ?_); (first | omega | (simp <;> omega)); try simp only [ex,reduceIte,reduceCtorEq,Nat.reduceEqDiff,Nat.reduceLT,Nat.reduceLeDiff,Nat.reduceAdd,Nat.reduceSub,Nat.reduceMul,Int.reduceAdd,Int.reduceSub,Int.reduceMul,Int.reduceNeg,Int.reduceLE,Int.reduceLT,Int.reduceEq,Int.reduceToNat])
  refine CallA.eq rfl (rsplit_spec a (by omega)) rfl ?_
  (try simp only [ex,reduceIte,reduceCtorEq,Nat.reduceEqDiff,Nat.reduceLT,Nat.reduceLeDiff,Nat.reduceAdd,Nat.reduceSub,Nat.reduceMul,Int.reduceAdd,Int.reduceSub,Int.reduceMul,Int.reduceNeg,Int.reduceLE,Int.reduceLT,Int.reduceEq,Int.reduceToNat]) <;> repeat ((with_reducible refine Req.intro ?_ ?_); (first | omega | (simp <;> omega)); try simp only [ex,reduceIte,reduceCtorEq,Nat.reduceEqDiff,Nat.reduceLT,Nat.reduceLeDiff,Nat.reduceAdd,Nat.reduceSub,Nat.reduceMul,Int.reduceAdd,Int.reduceSub,Int.reduceMul,Int.reduceNeg,Int.reduceLE,Int.reduceLT,Int.reduceEq,Int.reduceToNat])
  refine CallA.eq rfl (rsplit_spec b (by omega)) rfl ?_
  (try simp only [ex,reduceIte,reduceCtorEq,Nat.reduceEqDiff,Nat.reduceLT,Nat.reduceLeDiff,Nat.reduceAdd,Nat.reduceSub,Nat.reduceMul,Int.reduceAdd,Int.reduceSub,Int.reduceMul,Int.reduceNeg,Int.reduceLE,Int.reduceLT,Int.reduceEq,Int.reduceToNat]) <;> repeat ((with_reducible refine Req.intro ?_ ?_); (first | omega | (simp <;> omega)); try simp only [ex,reduceIte,reduceCtorEq,Nat.reduceEqDiff,Nat.reduceLT,Nat.reduceLeDiff,Nat.reduceAdd,Nat.reduceSub,Nat.reduceMul,Int.reduceAdd,Int.reduceSub,Int.reduceMul,Int.reduceNeg,Int.reduceLE,Int.reduceLT,Int.reduceEq,Int.reduceToNat])
  generalize lns a = x at *
  generalize lns b = y at *
  refine loopI fun L hL => ?_
  (try simp only [ex,reduceIte,reduceCtorEq,Nat.reduceEqDiff,Nat.reduceLT,Nat.reduceLeDiff,Nat.reduceAdd,Nat.reduceSub,Nat.reduceMul,Int.reduceAdd,Int.reduceSub,Int.reduceMul,Int.reduceNeg,Int.reduceLE,Int.reduceLT,Int.reduceEq,Int.reduceToNat]) <;> repeat ((with_reducible refine Req.intro ?_ ?_); (first | omega | (simp <;> omega)); try simp only [ex,reduceIte,reduceCtorEq,Nat.reduceEqDiff,Nat.reduceLT,Nat.reduceLeDiff,Nat.reduceAdd,Nat.reduceSub,Nat.reduceMul,Int.reduceAdd,Int.reduceSub,Int.reduceMul,Int.reduceNeg,Int.reduceLE,Int.reduceLT,Int.reduceEq,Int.reduceToNat])
  have key : ∀ (m i sum : Nat), i + m = x.length → sum + rcom x y (x.take i) (x.drop i) = rcom x y [] x → sum ≤ i * 100000000 → L (L15_1 (.sl true 1 (x.map .str)) (.sl true 1 (y.map .str)) (.int .i64 sum) (.int .i64 x.length) (.int .i64 i) [] 0) := by
    intro m
    induction m with
    | zero =>
      intro i sum hi hs hb
      have h1 : decide ((i : Int) < (x.length : Int)) = false := by simp; omega
      rw [List.drop_of_length_le (by omega), rcom, Nat.add_zero] at hs
      apply hL
      simp only [L15_1, l15_1, ex,reduceIte,reduceCtorEq,Nat.reduceEqDiff,Nat.reduceLT,Nat.reduceLeDiff,Nat.reduceAdd,Nat.reduceSub,Nat.reduceMul,Int.reduceAdd,Int.reduceSub,Int.reduceMul,Int.reduceNeg,Int.reduceLE,Int.reduceLT,Int.reduceEq,Int.reduceToNat]
      (try simp only [h1, ex,reduceIte,reduceCtorEq,Nat.reduceEqDiff,Nat.reduceLT,Nat.reduceLeDiff,Nat.reduceAdd,Nat.reduceSub,Nat.reduceMul,Int.reduceAdd,Int.reduceSub,Int.reduceMul,Int.reduceNeg,Int.reduceLE,Int.reduceLT,Int.reduceEq,Int.reduceToNat]) <;> repeat ((with_reducible refine Req.intro ?_ ?_); (first | omega | (simp <;> omega)); try simp only [h1, ex,reduceIte,reduceCtorEq,Nat.reduceEqDiff,Nat.reduceLT,Nat.reduceLeDiff,Nat.reduceAdd,Nat.reduceSub,Nat.reduceMul,Int.reduceAdd,Int.reduceSub,Int.reduceMul,Int.reduceNeg,Int.reduceLE,Int.reduceLT,Int.reduceEq,Int.reduceToNat])
      rw [hs]
    | succ m ih =>
      intro i sum hi hs hb
      have h1 : decide ((i : Int) < (x.length : Int)) = true := by simp; omega
      have g1 : x[i]? = some (x[i]'(by omega)) := List.getElem?_eq_getElem _
      have hz := hli (x[i]'(by omega)) (List.getElem_mem _)
      have ht : x.take (i + 1) = x.take i ++ [x[i]'(by omega)] := by rw [List.take_add_one, g1]; rfl
      rw [List.drop_eq_getElem_cons (by omega), rcom, ← ht, ← Nat.add_assoc] at hs
      generalize x[i]'(by omega) = z at *
      have c1 := cnt_le x z
      have c2 := cnt_le y z
      have hmin : (if ((y.count z : Nat) : Int) < ((x.count z : Nat) : Int) then ((y.count z : Nat) : Int) else ((x.count z : Nat) : Int)) = ((min (x.count z) (y.count z) : Nat) : Int) := by split <;> omega
      have hmm : min (x.count z) (y.count z) ≤ 3001 := by omega
      have hmul : z.length * min (x.count z) (y.count z) ≤ 3000 * 3001 := Nat.mul_le_mul (by omega) hmm
      rcases Nat.eq_zero_or_pos ((x.take i).count z) with q | q
      · have h2 : decide ((((x.take i).count z : Nat) : Int) = 0) = true := by simp; omega
        rw [if_pos q] at hs
        have h9 := ih (i + 1) _ (by omega) hs (by omega)
        generalize hmv : min (x.count z) (y.count z) = mv at *
        have hcast : ((z.length : Nat) : Int) * ((mv : Nat) : Int) = ((z.length * mv : Nat) : Int) := by simp
        apply hL
        simp only [L15_1, l15_1, ex,reduceIte,reduceCtorEq,Nat.reduceEqDiff,Nat.reduceLT,Nat.reduceLeDiff,Nat.reduceAdd,Nat.reduceSub,Nat.reduceMul,Int.reduceAdd,Int.reduceSub,Int.reduceMul,Int.reduceNeg,Int.reduceLE,Int.reduceLT,Int.reduceEq,Int.reduceToNat]
        (try simp only [h1, g1, ex,reduceIte,reduceCtorEq,Nat.reduceEqDiff,Nat.reduceLT,Nat.reduceLeDiff,Nat.reduceAdd,Nat.reduceSub,Nat.reduceMul,Int.reduceAdd,Int.reduceSub,Int.reduceMul,Int.reduceNeg,Int.reduceLE,Int.reduceLT,Int.reduceEq,Int.reduceToNat]) <;> repeat ((with_reducible refine Req.intro ?_ ?_); (first | omega | (simp <;> omega)); try simp only [h1, g1, ex,reduceIte,reduceCtorEq,Nat.reduceEqDiff,Nat.reduceLT,Nat.reduceLeDiff,Nat.reduceAdd,Nat.reduceSub,Nat.reduceMul,Int.reduceAdd,Int.reduceSub,Int.reduceMul,Int.reduceNeg,Int.reduceLE,Int.reduceLT,Int.reduceEq,Int.reduceToNat])
        refine CallD.eq rfl (times_spec _ (x.take i) z (by simp; omega)) rfl ?_
        (try simp only [h2, g1, ex,reduceIte,reduceCtorEq,Nat.reduceEqDiff,Nat.reduceLT,Nat.reduceLeDiff,Nat.reduceAdd,Nat.reduceSub,Nat.reduceMul,Int.reduceAdd,Int.reduceSub,Int.reduceMul,Int.reduceNeg,Int.reduceLE,Int.reduceLT,Int.reduceEq,Int.reduceToNat]) <;> repeat ((with_reducible refine Req.intro ?_ ?_); (first | omega | (simp <;> omega)); try simp only [h2, g1, ex,reduceIte,reduceCtorEq,Nat.reduceEqDiff,Nat.reduceLT,Nat.reduceLeDiff,Nat.reduceAdd,Nat.reduceSub,Nat.reduceMul,Int.reduceAdd,Int.reduceSub,Int.reduceMul,Int.reduceNeg,Int.reduceLE,Int.reduceLT,Int.reduceEq,Int.reduceToNat])
        refine CallD.eq rfl (times_spec _ x z (by omega)) rfl ?_
        (try simp only [g1, ex,reduceIte,reduceCtorEq,Nat.reduceEqDiff,Nat.reduceLT,Nat.reduceLeDiff,Nat.reduceAdd,Nat.reduceSub,Nat.reduceMul,Int.reduceAdd,Int.reduceSub,Int.reduceMul,Int.reduceNeg,Int.reduceLE,Int.reduceLT,Int.reduceEq,Int.reduceToNat]) <;> repeat ((with_reducible refine Req.intro ?_ ?_); (first | omega | (simp <;> omega)); try simp only [g1, ex,reduceIte,reduceCtorEq,Nat.reduceEqDiff,Nat.reduceLT,Nat.reduceLeDiff,Nat.reduceAdd,Nat.reduceSub,Nat.reduceMul,Int.reduceAdd,Int.reduceSub,Int.reduceMul,Int.reduceNeg,Int.reduceLE,Int.reduceLT,Int.reduceEq,Int.reduceToNat])
        refine CallD.eq rfl (times_spec _ y z (by omega)) rfl ?_
        (try simp only [hmin, hcast, ex,reduceIte,reduceCtorEq,Nat.reduceEqDiff,Nat.reduceLT,Nat.reduceLeDiff,Nat.reduceAdd,Nat.reduceSub,Nat.reduceMul,Int.reduceAdd,Int.reduceSub,Int.reduceMul,Int.reduceNeg,Int.reduceLE,Int.reduceLT,Int.reduceEq,Int.reduceToNat]) <;> repeat ((with_reducible refine Req.intro ?_ ?_); (first | omega | (simp <;> omega)); try simp only [hmin, hcast, ex,reduceIte,reduceCtorEq,Nat.reduceEqDiff,Nat.reduceLT,Nat.reduceLeDiff,Nat.reduceAdd,Nat.reduceSub,Nat.reduceMul,Int.reduceAdd,Int.reduceSub,Int.reduceMul,Int.reduceNeg,Int.reduceLE,Int.reduceLT,Int.reduceEq,Int.reduceToNat])
        exact h9
      · have h2 : decide ((((x.take i).count z : Nat) : Int) = 0) = false := by simp; omega
        rw [if_neg (by omega), Nat.add_zero] at hs
        have h9 := ih (i + 1) sum (by omega) hs (Nat.le_trans hb (Nat.mul_le_mul_right _ (Nat.le_succ i)))
        apply hL
        simp only [L15_1, l15_1, ex,reduceIte,reduceCtorEq,Nat.reduceEqDiff,Nat.reduceLT,Nat.reduceLeDiff,Nat.reduceAdd,Nat.reduceSub,Nat.reduceMul,Int.reduceAdd,Int.reduceSub,Int.reduceMul,Int.reduceNeg,Int.reduceLE,Int.reduceLT,Int.reduceEq,Int.reduceToNat]
        (try simp only [h1, g1, ex,reduceIte,reduceCtorEq,Nat.reduceEqDiff,Nat.reduceLT,Nat.reduceLeDiff,Nat.reduceAdd,Nat.reduceSub,Nat.reduceMul,Int.reduceAdd,Int.reduceSub,Int.reduceMul,Int.reduceNeg,Int.reduceLE,Int.reduceLT,Int.reduceEq,Int.reduceToNat]) <;> repeat ((with_reducible refine Req.intro ?_ ?_); (first | omega | (simp <;> omega)); try simp only [h1, g1, ex,reduceIte,reduceCtorEq,Nat.reduceEqDiff,Nat.reduceLT,Nat.reduceLeDiff,Nat.reduceAdd,Nat.reduceSub,Nat.reduceMul,Int.reduceAdd,Int.reduceSub,Int.reduceMul,Int.reduceNeg,Int.reduceLE,Int.reduceLT,Int.reduceEq,Int.reduceToNat])
        refine CallD.eq rfl (times_spec _ (x.take i) z (by simp; omega)) rfl ?_
        (try simp only [h2, ex,reduceIte,reduceCtorEq,Nat.reduceEqDiff,Nat.reduceLT,Nat.reduceLeDiff,Nat.reduceAdd,Nat.reduceSub,Nat.reduceMul,Int.reduceAdd,Int.reduceSub,Int.reduceMul,Int.reduceNeg,Int.reduceLE,Int.reduceLT,Int.reduceEq,Int.reduceToNat]) <;> repeat ((with_reducible refine Req.intro ?_ ?_); (first | omega | (simp <;> omega)); try simp only [h2, ex,reduceIte,reduceCtorEq,Nat.reduceEqDiff,Nat.reduceLT,Nat.reduceLeDiff,Nat.reduceAdd,Nat.reduceSub,Nat.reduceMul,Int.reduceAdd,Int.reduceSub,Int.reduceMul,Int.reduceNeg,Int.reduceLE,Int.reduceLT,Int.reduceEq,Int.reduceToNat])
        exact h9
  have z : ∀ q : Nat, (0 : Nat) ≤ 0 * q := fun q => Nat.zero_le _
  exact key x.length 0 0 (Nat.zero_add _) (by simp) (z _)
theorem total_nil : ∀ (l p : List Sx), total [] p l = 0
  | [], p => rfl
  | x :: l, p => by
    rw [total, total_nil l]
    unfold bring
    rw [if_pos (by simp)]
theorem rscore_spec (a b : Sx) (ha : a.length ≤ 3000) (hb : b.length ≤ 3000) : Run tab 16 0 [.str a, .str b] [] 0 (fun r _ _ => r = .int .i64 (scN a b : Nat)) := by
  have hle := comN_le a b
  refine enter (F := f16) rfl rfl ?_
  simp only [f16, ex,reduceIte,reduceCtorEq,Nat.reduceEqDiff,Nat.reduceLT,Nat.reduceLeDiff,Nat.reduceAdd,Nat.reduceSub,Nat.reduceMul,Int.reduceAdd,Int.reduceSub,Int.reduceMul,Int.reduceNeg,Int.reduceLE,Int.reduceLT,Int.reduceEq,Int.reduceToNat]
  rcases Classical.em (a = []) with ea | ea
  · have d1 : decide (a = []) = true := by simpa using ea
    rcases Classical.em (b = []) with eb | eb
    · have d2 : decide (b = []) = true := by simpa using eb
      (try simp only [d1, d2, ex,reduceIte,reduceCtorEq,Nat.reduceEqDiff,Nat.reduceLT,Nat.reduceLeDiff,Nat.reduceAdd,Nat.reduceSub,Nat.reduceMul,Int.reduceAdd,Int.reduceSub,Int.reduceMul,Int.reduceNeg,Int.reduceLE,Int.reduceLT,Int.reduceEq,Int.reduceToNat]) <;> repeat ((with_reducible refine Req.intro ?_ ?_); (first | omega | (simp <;> omega)); try simp only [d1, d2, ex,reduceIte,reduceCtorEq,Nat.reduceEqDiff,Nat.reduceLT,Nat.reduceLeDiff,Nat.reduceAdd,Nat.reduceSub,Nat.reduceMul,Int.reduceAdd,Int.reduceSub,Int.reduceMul,Int.reduceNeg,Int.reduceLE,Int.reduceLT,Int.reduceEq,Int.reduceToNat])
      rw [scN, if_pos (by simp [ea, eb])]; rfl
    · have d2 : decide (b = []) = false := by simpa using eb
      have l2 := List.length_pos_iff.2 eb
      have h0 : comN a b = 0 := by unfold comN; rw [ea]; exact total_nil _ _
      (try simp only [d1, d2, ex,reduceIte,reduceCtorEq,Nat.reduceEqDiff,Nat.reduceLT,Nat.reduceLeDiff,Nat.reduceAdd,Nat.reduceSub,Nat.reduceMul,Int.reduceAdd,Int.reduceSub,Int.reduceMul,Int.reduceNeg,Int.reduceLE,Int.reduceLT,Int.reduceEq,Int.reduceToNat]) <;> repeat ((with_reducible refine Req.intro ?_ ?_); (first | omega | (simp <;> omega)); try simp only [d1, d2, ex,reduceIte,reduceCtorEq,Nat.reduceEqDiff,Nat.reduceLT,Nat.reduceLeDiff,Nat.reduceAdd,Nat.reduceSub,Nat.reduceMul,Int.reduceAdd,Int.reduceSub,Int.reduceMul,Int.reduceNeg,Int.reduceLE,Int.reduceLT,Int.reduceEq,Int.reduceToNat])
      rw [scN, if_neg (by omega), h0]; simp
  · have d1 : decide (a = []) = false := by simpa using ea
    have l1 := List.length_pos_iff.2 ea
    rcases Classical.em (b = []) with eb | eb
    · have d2 : decide (b = []) = true := by simpa using eb
      have h0 : comN a b = 0 := by
        have : b.length = 0 := by rw [eb]; rfl
        omega
      (try simp only [d1, d2, ex,reduceIte,reduceCtorEq,Nat.reduceEqDiff,Nat.reduceLT,Nat.reduceLeDiff,Nat.reduceAdd,Nat.reduceSub,Nat.reduceMul,Int.reduceAdd,Int.reduceSub,Int.reduceMul,Int.reduceNeg,Int.reduceLE,Int.reduceLT,Int.reduceEq,Int.reduceToNat]) <;> repeat ((with_reducible refine Req.intro ?_ ?_); (first | omega | (simp <;> omega)); try simp only [d1, d2, ex,reduceIte,reduceCtorEq,Nat.reduceEqDiff,Nat.reduceLT,Nat.reduceLeDiff,Nat.reduceAdd,Nat.reduceSub,Nat.reduceMul,Int.reduceAdd,Int.reduceSub,Int.reduceMul,Int.reduceNeg,Int.reduceLE,Int.reduceLT,Int.reduceEq,Int.reduceToNat])
      rw [scN, if_neg (by omega), h0]; simp
    · have d2 : decide (b = []) = false := by simpa using eb
      have hm : (if ((b.length : Nat) : Int) > ((a.length : Nat) : Int) then ((b.length : Nat) : Int) else ((a.length : Nat) : Int)) = ((max a.length b.length : Nat) : Int) := by split <;> omega
      have hd : (100 * (comN a b : Int)).tdiv ((max a.length b.length : Nat) : Int) = ((100 * comN a b / max a.length b.length : Nat) : Int) := by
        rw [Int.tdiv_eq_ediv_of_nonneg (by omega)]; simp
      have hle2 : 100 * comN a b / max a.length b.length ≤ 100 * comN a b := Nat.div_le_self _ _
      (try simp only [d1, d2, ex,reduceIte,reduceCtorEq,Nat.reduceEqDiff,Nat.reduceLT,Nat.reduceLeDiff,Nat.reduceAdd,Nat.reduceSub,Nat.reduceMul,Int.reduceAdd,Int.reduceSub,Int.reduceMul,Int.reduceNeg,Int.reduceLE,Int.reduceLT,Int.reduceEq,Int.reduceToNat]) <;> repeat ((with_reducible refine Req.intro ?_ ?_); (first | omega | (simp <;> omega)); try simp only [d1, d2, ex,reduceIte,reduceCtorEq,Nat.reduceEqDiff,Nat.reduceLT,Nat.reduceLeDiff,Nat.reduceAdd,Nat.reduceSub,Nat.reduceMul,Int.reduceAdd,Int.reduceSub,Int.reduceMul,Int.reduceNeg,Int.reduceLE,Int.reduceLT,Int.reduceEq,Int.reduceToNat])
      refine CallA.eq rfl (rcommon_spec a b ha hb) rfl ?_
      (try simp only [hm, ex,reduceIte,reduceCtorEq,Nat.reduceEqDiff,Nat.reduceLT,Nat.reduceLeDiff,Nat.reduceAdd,Nat.reduceSub,Nat.reduceMul,Int.reduceAdd,Int.reduceSub,Int.reduceMul,Int.reduceNeg,Int.reduceLE,Int.reduceLT,Int.reduceEq,Int.reduceToNat]) <;> repeat ((with_reducible refine Req.intro ?_ ?_); (first | omega | (simp <;> omega)); try simp only [hm, ex,reduceIte,reduceCtorEq,Nat.reduceEqDiff,Nat.reduceLT,Nat.reduceLeDiff,Nat.reduceAdd,Nat.reduceSub,Nat.reduceMul,Int.reduceAdd,Int.reduceSub,Int.reduceMul,Int.reduceNeg,Int.reduceLE,Int.reduceLT,Int.reduceEq,Int.reduceToNat])
      rw [hd, scN, if_neg (by omega)]
      generalize 100 * comN a b / max a.length b.length = q at hle2 ⊢
      rw [i64_wrap3 (by omega) (by omega)]
/-- Place and score. -/
def atO (o : Option Sc) : Int := match o with | none => -1 | some p => p.1
def scO (o : Option Sc) : Int := match o with | none => 0 | some p => p.2
theorem rbest_spec (o : Bool) (a : Sx) (l : List Sx) (ha : a.length ≤ 3000) (hl : l.length ≤ 12) (hs : ∀ x ∈ l, x.length ≤ 3000) :
    Run tab 20 0 [.str a, .sl o 1 (l.map .str)] [] 0 (fun r _ _ => r = .tup [.int .i64 (atO (fmax (scs a l))), .int .i64 (scO (fmax (scs a l)))]) := by
  refine enter (F := f20) rfl rfl ?_
  simp only [f20, ex,reduceIte,reduceCtorEq,Nat.reduceEqDiff,Nat.reduceLT,Nat.reduceLeDiff,Nat.reduceAdd,Nat.reduceSub,Nat.reduceMul,Int.reduceAdd,Int.reduceSub,Int.reduceMul,Int.reduceNeg,Int.reduceLE,Int.reduceLT,Int.reduceEq,Int.reduceToNat]
  (try simp only [ex,reduceIte,reduceCtorEq,Nat.reduceEqDiff,Nat.reduceLT,Nat.reduceLeDiff,Nat.reduceAdd,Nat.reduceSub,Nat.reduceMul,Int.reduceAdd,Int.reduceSub,Int.reduceMul,Int.reduceNeg,Int.reduceLE,Int.reduceLT,Int.reduceEq,Int.reduceToNat]) <;> repeat ((with_reducible refine Req.intro ?_ ?_); (first | omega | (simp <;> omega)); try simp only [ex,reduceIte,reduceCtorEq,Nat.reduceEqDiff,Nat.reduceLT,Nat.reduceLeDiff,Nat.reduceAdd,Nat.reduceSub,Nat.reduceMul,Int.reduceAdd,Int.reduceSub,Int.reduceMul,Int.reduceNeg,Int.reduceLE,Int.reduceLT,Int.reduceEq,Int.reduceToNat])
  refine loopI fun L hL => ?_
  (try simp only [ex,reduceIte,reduceCtorEq,Nat.reduceEqDiff,Nat.reduceLT,Nat.reduceLeDiff,Nat.reduceAdd,Nat.reduceSub,Nat.reduceMul,Int.reduceAdd,Int.reduceSub,Int.reduceMul,Int.reduceNeg,Int.reduceLE,Int.reduceLT,Int.reduceEq,Int.reduceToNat]) <;> repeat ((with_reducible refine Req.intro ?_ ?_); (first | omega | (simp <;> omega)); try simp only [ex,reduceIte,reduceCtorEq,Nat.reduceEqDiff,Nat.reduceLT,Nat.reduceLeDiff,Nat.reduceAdd,Nat.reduceSub,Nat.reduceMul,Int.reduceAdd,Int.reduceSub,Int.reduceMul,Int.reduceNeg,Int.reduceLE,Int.reduceLT,Int.reduceEq,Int.reduceToNat])
  have key : ∀ (m i : Nat), i + m = l.length → L (L20_1 (.str a) (.sl o 1 (l.map .str)) (.int .i64 (atO (fmax (scs a (l.take i))))) (.int .i64 (scO (fmax (scs a (l.take i))))) (.int .i64 l.length) (.int .i64 i) [] 0) := by
    intro m
    induction m with
    | zero =>
      intro i hi
      have h1 : decide ((i : Int) < (l.length : Int)) = false := by simp; omega
      apply hL
      simp only [L20_1, l20_1, ex,reduceIte,reduceCtorEq,Nat.reduceEqDiff,Nat.reduceLT,Nat.reduceLeDiff,Nat.reduceAdd,Nat.reduceSub,Nat.reduceMul,Int.reduceAdd,Int.reduceSub,Int.reduceMul,Int.reduceNeg,Int.reduceLE,Int.reduceLT,Int.reduceEq,Int.reduceToNat]
      (try simp only [h1, ex,reduceIte,reduceCtorEq,Nat.reduceEqDiff,Nat.reduceLT,Nat.reduceLeDiff,Nat.reduceAdd,Nat.reduceSub,Nat.reduceMul,Int.reduceAdd,Int.reduceSub,Int.reduceMul,Int.reduceNeg,Int.reduceLE,Int.reduceLT,Int.reduceEq,Int.reduceToNat]) <;> repeat ((with_reducible refine Req.intro ?_ ?_); (first | omega | (simp <;> omega)); try simp only [h1, ex,reduceIte,reduceCtorEq,Nat.reduceEqDiff,Nat.reduceLT,Nat.reduceLeDiff,Nat.reduceAdd,Nat.reduceSub,Nat.reduceMul,Int.reduceAdd,Int.reduceSub,Int.reduceMul,Int.reduceNeg,Int.reduceLE,Int.reduceLT,Int.reduceEq,Int.reduceToNat])
      rw [List.take_of_length_le (by omega)]
    | succ m ih =>
      intro i hi
      have h1 : decide ((i : Int) < (l.length : Int)) = true := by simp; omega
      have g1 : l[i]? = some (l[i]'(by omega)) := List.getElem?_eq_getElem _
      have hxs := hs (l[i]'(by omega)) (List.getElem_mem _)
      have ht : l.take (i + 1) = l.take i ++ [l[i]'(by omega)] := by rw [List.take_add_one, g1]; rfl
      have h9 := ih (i + 1) (by omega)
      rw [ht, scs_snoc, fmax_snoc, show (l.take i).length = i by simp; omega] at h9
      generalize l[i]'(by omega) = x at *
      cases hf : fmax (scs a (l.take i)) with
      | none =>
        rw [hf] at h9
        have k1 : decide (atO none < 0) = true := by decide
        apply hL
        simp only [L20_1, l20_1, ex,reduceIte,reduceCtorEq,Nat.reduceEqDiff,Nat.reduceLT,Nat.reduceLeDiff,Nat.reduceAdd,Nat.reduceSub,Nat.reduceMul,Int.reduceAdd,Int.reduceSub,Int.reduceMul,Int.reduceNeg,Int.reduceLE,Int.reduceLT,Int.reduceEq,Int.reduceToNat]
        (try simp only [h1, g1, ex,reduceIte,reduceCtorEq,Nat.reduceEqDiff,Nat.reduceLT,Nat.reduceLeDiff,Nat.reduceAdd,Nat.reduceSub,Nat.reduceMul,Int.reduceAdd,Int.reduceSub,Int.reduceMul,Int.reduceNeg,Int.reduceLE,Int.reduceLT,Int.reduceEq,Int.reduceToNat]) <;> repeat ((with_reducible refine Req.intro ?_ ?_); (first | omega | (simp <;> omega)); try simp only [h1, g1, ex,reduceIte,reduceCtorEq,Nat.reduceEqDiff,Nat.reduceLT,Nat.reduceLeDiff,Nat.reduceAdd,Nat.reduceSub,Nat.reduceMul,Int.reduceAdd,Int.reduceSub,Int.reduceMul,Int.reduceNeg,Int.reduceLE,Int.reduceLT,Int.reduceEq,Int.reduceToNat])
        refine CallA.eq rfl (rscore_spec a x ha hxs) rfl ?_
        (try simp only [k1, ex,reduceIte,reduceCtorEq,Nat.reduceEqDiff,Nat.reduceLT,Nat.reduceLeDiff,Nat.reduceAdd,Nat.reduceSub,Nat.reduceMul,Int.reduceAdd,Int.reduceSub,Int.reduceMul,Int.reduceNeg,Int.reduceLE,Int.reduceLT,Int.reduceEq,Int.reduceToNat]) <;> repeat ((with_reducible refine Req.intro ?_ ?_); (first | omega | (simp <;> omega)); try simp only [k1, ex,reduceIte,reduceCtorEq,Nat.reduceEqDiff,Nat.reduceLT,Nat.reduceLeDiff,Nat.reduceAdd,Nat.reduceSub,Nat.reduceMul,Int.reduceAdd,Int.reduceSub,Int.reduceMul,Int.reduceNeg,Int.reduceLE,Int.reduceLT,Int.reduceEq,Int.reduceToNat])
        exact h9
      | some p =>
        rw [hf] at h9
        have k1 : decide (atO (some p) < 0) = false := decide_eq_false (show ¬ ((p.1 : Int) < 0) by omega)
        rcases Nat.lt_or_ge p.2 (scN a x) with q | q
        · have k2 : decide ((scN a x : Int) > scO (some p)) = true := decide_eq_true (show ((scN a x : Nat) : Int) > (p.2 : Int) by omega)
          simp only [if_pos q] at h9
          apply hL
          simp only [L20_1, l20_1, ex,reduceIte,reduceCtorEq,Nat.reduceEqDiff,Nat.reduceLT,Nat.reduceLeDiff,Nat.reduceAdd,Nat.reduceSub,Nat.reduceMul,Int.reduceAdd,Int.reduceSub,Int.reduceMul,Int.reduceNeg,Int.reduceLE,Int.reduceLT,Int.reduceEq,Int.reduceToNat]
          (try simp only [h1, g1, ex,reduceIte,reduceCtorEq,Nat.reduceEqDiff,Nat.reduceLT,Nat.reduceLeDiff,Nat.reduceAdd,Nat.reduceSub,Nat.reduceMul,Int.reduceAdd,Int.reduceSub,Int.reduceMul,Int.reduceNeg,Int.reduceLE,Int.reduceLT,Int.reduceEq,Int.reduceToNat]) <;> repeat ((with_reducible refine Req.intro ?_ ?_); (first | omega | (simp <;> omega)); try simp only [h1, g1, ex,reduceIte,reduceCtorEq,Nat.reduceEqDiff,Nat.reduceLT,Nat.reduceLeDiff,Nat.reduceAdd,Nat.reduceSub,Nat.reduceMul,Int.reduceAdd,Int.reduceSub,Int.reduceMul,Int.reduceNeg,Int.reduceLE,Int.reduceLT,Int.reduceEq,Int.reduceToNat])
          refine CallA.eq rfl (rscore_spec a x ha hxs) rfl ?_
          (try simp only [k1, k2, ex,reduceIte,reduceCtorEq,Nat.reduceEqDiff,Nat.reduceLT,Nat.reduceLeDiff,Nat.reduceAdd,Nat.reduceSub,Nat.reduceMul,Int.reduceAdd,Int.reduceSub,Int.reduceMul,Int.reduceNeg,Int.reduceLE,Int.reduceLT,Int.reduceEq,Int.reduceToNat]) <;> repeat ((with_reducible refine Req.intro ?_ ?_); (first | omega | (simp <;> omega)); try simp only [k1, k2, ex,reduceIte,reduceCtorEq,Nat.reduceEqDiff,Nat.reduceLT,Nat.reduceLeDiff,Nat.reduceAdd,Nat.reduceSub,Nat.reduceMul,Int.reduceAdd,Int.reduceSub,Int.reduceMul,Int.reduceNeg,Int.reduceLE,Int.reduceLT,Int.reduceEq,Int.reduceToNat])
          exact h9
        · have k2 : decide ((scN a x : Int) > scO (some p)) = false := decide_eq_false (show ¬ ((scN a x : Nat) : Int) > (p.2 : Int) by omega)
          simp only [if_neg (show ¬ p.2 < scN a x by omega)] at h9
          apply hL
          simp only [L20_1, l20_1, ex,reduceIte,reduceCtorEq,Nat.reduceEqDiff,Nat.reduceLT,Nat.reduceLeDiff,Nat.reduceAdd,Nat.reduceSub,Nat.reduceMul,Int.reduceAdd,Int.reduceSub,Int.reduceMul,Int.reduceNeg,Int.reduceLE,Int.reduceLT,Int.reduceEq,Int.reduceToNat]
          (try simp only [h1, g1, ex,reduceIte,reduceCtorEq,Nat.reduceEqDiff,Nat.reduceLT,Nat.reduceLeDiff,Nat.reduceAdd,Nat.reduceSub,Nat.reduceMul,Int.reduceAdd,Int.reduceSub,Int.reduceMul,Int.reduceNeg,Int.reduceLE,Int.reduceLT,Int.reduceEq,Int.reduceToNat]) <;> repeat ((with_reducible refine Req.intro ?_ ?_); (first | omega | (simp <;> omega)); try simp only [h1, g1, ex,reduceIte,reduceCtorEq,Nat.reduceEqDiff,Nat.reduceLT,Nat.reduceLeDiff,Nat.reduceAdd,Nat.reduceSub,Nat.reduceMul,Int.reduceAdd,Int.reduceSub,Int.reduceMul,Int.reduceNeg,Int.reduceLE,Int.reduceLT,Int.reduceEq,Int.reduceToNat])
          refine CallA.eq rfl (rscore_spec a x ha hxs) rfl ?_
          (try simp only [k1, k2, ex,reduceIte,reduceCtorEq,Nat.reduceEqDiff,Nat.reduceLT,Nat.reduceLeDiff,Nat.reduceAdd,Nat.reduceSub,Nat.reduceMul,Int.reduceAdd,Int.reduceSub,Int.reduceMul,Int.reduceNeg,Int.reduceLE,Int.reduceLT,Int.reduceEq,Int.reduceToNat]) <;> repeat ((with_reducible refine Req.intro ?_ ?_); (first | omega | (simp <;> omega)); try simp only [k1, k2, ex,reduceIte,reduceCtorEq,Nat.reduceEqDiff,Nat.reduceLT,Nat.reduceLeDiff,Nat.reduceAdd,Nat.reduceSub,Nat.reduceMul,Int.reduceAdd,Int.reduceSub,Int.reduceMul,Int.reduceNeg,Int.reduceLE,Int.reduceLT,Int.reduceEq,Int.reduceToNat])
          exact h9
  exact key l.length 0 (Nat.zero_add _)
end Go.Proofs.Ythphnacnjbcpiaa.E.Hs

/- Fixed examples of chapter 11: run outright. Conditions: none. -/
namespace Go.Proofs.Ythphnacnjbcpiaa.E.Hs
set_option linter.unusedVariables false
theorem lives_spec : Run tab 9 0 [] [] 0 (fun r _ _ => r = .bool true) := by
  have h : (evF tab 1000 9 0 [] [] 0).map (fun q => match q.1 with | .bool b => b | _ => false) = some true := by kernel_rfl
  obtain ⟨q, h1, h2⟩ := Option.map_eq_some_iff.1 h
  refine (run_ev 1000 h1).weaken fun r h n hh => ?_
  have e := hh.1
  rw [e]
  generalize q.1 = y at h2
  cases y <;> first | (cases h2; done) | (simp only at h2; rw [h2])
end Go.Proofs.Ythphnacnjbcpiaa.E.Hs

/- The law SimilBest. Conditions: none. -/
namespace Go.Proofs.Ythphnacnjbcpiaa.E.Hs
set_option linter.unusedVariables false
set_option linter.unusedSimpArgs false
set_option maxHeartbeats 20000000
set_option maxRecDepth 100000

/-- What several cases come to is proved once. -/
structure Hold (P : Prop) : Prop where
  out : P
theorem shareL {P Q : Prop} (h : Hold P → Q) (k : P) : Q := h ⟨k⟩
theorem fmax_some : ∀ l : List Sc, l ≠ [] → ∃ p, fmax l = some p := by
  intro l hl
  rcases List.eq_nil_or_concat l with e | ⟨q, x, e⟩
  · exact absurd e hl
  · rw [e, List.concat_eq_append, fmax_snoc]
    cases fmax q with
    | none => exact ⟨_, rfl⟩
    | some y => simp only; split <;> exact ⟨_, rfl⟩
theorem best2_spec (o : Bool) (a : Sx) (l : List Sx) (ha : a.length ≤ 100000) (hl : l.length ≤ 12) (hs : ∀ x ∈ l, x.length ≤ 100000) :
    Run tab 19 0 [.str a, .sl o 1 (l.map .str)] [] 0 (fun r _ _ => r = .tup [.int .i64 (atO (fmax (scs a l))), .int .i64 (scO (fmax (scs a l)))]) := by
  refine (best_spec o a l ha hl hs).weaken fun r h n hh => ?_
  rcases Classical.em (l = []) with e | e
  · rw [hh.1 e, e]; rfl
  · have hne : scs a l ≠ [] := fun e2 => by
      have := scs_len a l
      rw [e2] at this
      exact e (List.eq_nil_of_length_eq_zero this.symm)
    obtain ⟨p, hp⟩ := fmax_some _ hne
    rw [hh.2 p hp, hp]; rfl
theorem few_len {s : Sx} (h : few s = true) : s.length ≤ 3000 := by
  unfold few at h
  simp only [Bool.and_eq_true, decide_eq_true_iff] at h
  exact h.1
theorem law_SimilBest (a : Sx) (l : List Sx) (hl : l.length ≤ 17592186044416) : Run tab 7 0 [.str a, .sl false 1 (l.map .str)] [] 0 (fun r _ _ => r = .bool true) := by
  refine enter (F := f7) rfl rfl ?_
  simp only [f7, ex,reduceIte,reduceCtorEq,Nat.reduceEqDiff,Nat.reduceLT,Nat.reduceLeDiff,Nat.reduceAdd,Nat.reduceSub,Nat.reduceMul,Int.reduceAdd,Int.reduceSub,Int.reduceMul,Int.reduceNeg,Int.reduceLE,Int.reduceLT,Int.reduceEq,Int.reduceToNat]
  (try simp only [ex,reduceIte,reduceCtorEq,Nat.reduceEqDiff,Nat.reduceLT,Nat.reduceLeDiff,Nat.reduceAdd,Nat.reduceSub,Nat.reduceMul,Int.reduceAdd,Int.reduceSub,Int.reduceMul,Int.reduceNeg,Int.reduceLE,Int.reduceLT,Int.reduceEq,Int.reduceToNat]) <;> repeat ((with_reducible refine Req.intro ?_ ?_); (first | omega | (simp <;> omega)); try simp only [ex,reduceIte,reduceCtorEq,Nat.reduceEqDiff,Nat.reduceLT,Nat.reduceLeDiff,Nat.reduceAdd,Nat.reduceSub,Nat.reduceMul,Int.reduceAdd,Int.reduceSub,Int.reduceMul,Int.reduceNeg,Int.reduceLE,Int.reduceLT,Int.reduceEq,Int.reduceToNat])
  refine CallA.eq rfl (few_spec a) rfl ?_
  (try simp only [ex,reduceIte,reduceCtorEq,Nat.reduceEqDiff,Nat.reduceLT,Nat.reduceLeDiff,Nat.reduceAdd,Nat.reduceSub,Nat.reduceMul,Int.reduceAdd,Int.reduceSub,Int.reduceMul,Int.reduceNeg,Int.reduceLE,Int.reduceLT,Int.reduceEq,Int.reduceToNat]) <;> repeat ((with_reducible refine Req.intro ?_ ?_); (first | omega | (simp <;> omega)); try simp only [ex,reduceIte,reduceCtorEq,Nat.reduceEqDiff,Nat.reduceLT,Nat.reduceLeDiff,Nat.reduceAdd,Nat.reduceSub,Nat.reduceMul,Int.reduceAdd,Int.reduceSub,Int.reduceMul,Int.reduceNeg,Int.reduceLE,Int.reduceLT,Int.reduceEq,Int.reduceToNat])
  apply shareL
  · intro share
    refine ifB.intro (fun h1 => ?_) (fun h1 => ?_)
    · have l1 := few_len h1
      (try simp only [h1, ex,reduceIte,reduceCtorEq,Nat.reduceEqDiff,Nat.reduceLT,Nat.reduceLeDiff,Nat.reduceAdd,Nat.reduceSub,Nat.reduceMul,Int.reduceAdd,Int.reduceSub,Int.reduceMul,Int.reduceNeg,Int.reduceLE,Int.reduceLT,Int.reduceEq,Int.reduceToNat]) <;> repeat ((with_reducible refine Req.intro ?_ ?_); (first | omega | (simp <;> omega)); try simp only [h1, ex,reduceIte,reduceCtorEq,Nat.reduceEqDiff,Nat.reduceLT,Nat.reduceLeDiff,Nat.reduceAdd,Nat.reduceSub,Nat.reduceMul,Int.reduceAdd,Int.reduceSub,Int.reduceMul,Int.reduceNeg,Int.reduceLE,Int.reduceLT,Int.reduceEq,Int.reduceToNat])
      refine ifB.intro (fun h2 => ?_) (fun h2 => ?_)
      · (try simp only [ex,reduceIte,reduceCtorEq,Nat.reduceEqDiff,Nat.reduceLT,Nat.reduceLeDiff,Nat.reduceAdd,Nat.reduceSub,Nat.reduceMul,Int.reduceAdd,Int.reduceSub,Int.reduceMul,Int.reduceNeg,Int.reduceLE,Int.reduceLT,Int.reduceEq,Int.reduceToNat]) <;> repeat ((with_reducible refine Req.intro ?_ ?_); (first | omega | (simp <;> omega)); try simp only [ex,reduceIte,reduceCtorEq,Nat.reduceEqDiff,Nat.reduceLT,Nat.reduceLeDiff,Nat.reduceAdd,Nat.reduceSub,Nat.reduceMul,Int.reduceAdd,Int.reduceSub,Int.reduceMul,Int.reduceNeg,Int.reduceLE,Int.reduceLT,Int.reduceEq,Int.reduceToNat])
        exact share.out
      · have l2 : l.length ≤ 12 := by simp at h2; omega
        (try simp only [ex,reduceIte,reduceCtorEq,Nat.reduceEqDiff,Nat.reduceLT,Nat.reduceLeDiff,Nat.reduceAdd,Nat.reduceSub,Nat.reduceMul,Int.reduceAdd,Int.reduceSub,Int.reduceMul,Int.reduceNeg,Int.reduceLE,Int.reduceLT,Int.reduceEq,Int.reduceToNat]) <;> repeat ((with_reducible refine Req.intro ?_ ?_); (first | omega | (simp <;> omega)); try simp only [ex,reduceIte,reduceCtorEq,Nat.reduceEqDiff,Nat.reduceLT,Nat.reduceLeDiff,Nat.reduceAdd,Nat.reduceSub,Nat.reduceMul,Int.reduceAdd,Int.reduceSub,Int.reduceMul,Int.reduceNeg,Int.reduceLE,Int.reduceLT,Int.reduceEq,Int.reduceToNat])
        refine loopI fun L hL => ?_
        (try simp only [ex,reduceIte,reduceCtorEq,Nat.reduceEqDiff,Nat.reduceLT,Nat.reduceLeDiff,Nat.reduceAdd,Nat.reduceSub,Nat.reduceMul,Int.reduceAdd,Int.reduceSub,Int.reduceMul,Int.reduceNeg,Int.reduceLE,Int.reduceLT,Int.reduceEq,Int.reduceToNat]) <;> repeat ((with_reducible refine Req.intro ?_ ?_); (first | omega | (simp <;> omega)); try simp only [ex,reduceIte,reduceCtorEq,Nat.reduceEqDiff,Nat.reduceLT,Nat.reduceLeDiff,Nat.reduceAdd,Nat.reduceSub,Nat.reduceMul,Int.reduceAdd,Int.reduceSub,Int.reduceMul,Int.reduceNeg,Int.reduceLE,Int.reduceLT,Int.reduceEq,Int.reduceToNat])
        have key : ∀ (m i : Nat), i + m = l.length → (∀ x ∈ l.take i, few x = true) → L (L7_1 (.str a) (.sl false 1 (l.map .str)) (.int .i64 l.length) (.int .i64 i) [] 0) := by
          intro m
          induction m with
          | zero =>
            intro i hi hf
            have k1 : decide ((i : Int) < (l.length : Int)) = false := by simp; omega
            rw [List.take_of_length_le (by omega)] at hf
            have hf3 : ∀ x ∈ l, x.length ≤ 3000 := fun x hx => few_len (hf x hx)
            apply hL
            simp only [L7_1, l7_1, ex,reduceIte,reduceCtorEq,Nat.reduceEqDiff,Nat.reduceLT,Nat.reduceLeDiff,Nat.reduceAdd,Nat.reduceSub,Nat.reduceMul,Int.reduceAdd,Int.reduceSub,Int.reduceMul,Int.reduceNeg,Int.reduceLE,Int.reduceLT,Int.reduceEq,Int.reduceToNat]
            (try simp only [k1, ex,reduceIte,reduceCtorEq,Nat.reduceEqDiff,Nat.reduceLT,Nat.reduceLeDiff,Nat.reduceAdd,Nat.reduceSub,Nat.reduceMul,Int.reduceAdd,Int.reduceSub,Int.reduceMul,Int.reduceNeg,Int.reduceLE,Int.reduceLT,Int.reduceEq,Int.reduceToNat]) <;> repeat ((with_reducible refine Req.intro ?_ ?_); (first | omega | (simp <;> omega)); try simp only [k1, ex,reduceIte,reduceCtorEq,Nat.reduceEqDiff,Nat.reduceLT,Nat.reduceLeDiff,Nat.reduceAdd,Nat.reduceSub,Nat.reduceMul,Int.reduceAdd,Int.reduceSub,Int.reduceMul,Int.reduceNeg,Int.reduceLE,Int.reduceLT,Int.reduceEq,Int.reduceToNat])
            refine CallA.eq rfl (best2_spec _ a l (by omega) l2 (fun x hx => by have := hf3 x hx; omega)) rfl ?_
            (try simp only [ex,reduceIte,reduceCtorEq,Nat.reduceEqDiff,Nat.reduceLT,Nat.reduceLeDiff,Nat.reduceAdd,Nat.reduceSub,Nat.reduceMul,Int.reduceAdd,Int.reduceSub,Int.reduceMul,Int.reduceNeg,Int.reduceLE,Int.reduceLT,Int.reduceEq,Int.reduceToNat]) <;> repeat ((with_reducible refine Req.intro ?_ ?_); (first | omega | (simp <;> omega)); try simp only [ex,reduceIte,reduceCtorEq,Nat.reduceEqDiff,Nat.reduceLT,Nat.reduceLeDiff,Nat.reduceAdd,Nat.reduceSub,Nat.reduceMul,Int.reduceAdd,Int.reduceSub,Int.reduceMul,Int.reduceNeg,Int.reduceLE,Int.reduceLT,Int.reduceEq,Int.reduceToNat])
            refine CallA.eq rfl (rbest_spec _ a l l1 l2 hf3) rfl ?_
            (try simp only [ex,reduceIte,reduceCtorEq,Nat.reduceEqDiff,Nat.reduceLT,Nat.reduceLeDiff,Nat.reduceAdd,Nat.reduceSub,Nat.reduceMul,Int.reduceAdd,Int.reduceSub,Int.reduceMul,Int.reduceNeg,Int.reduceLE,Int.reduceLT,Int.reduceEq,Int.reduceToNat]) <;> repeat ((with_reducible refine Req.intro ?_ ?_); (first | omega | (simp <;> omega)); try simp only [ex,reduceIte,reduceCtorEq,Nat.reduceEqDiff,Nat.reduceLT,Nat.reduceLeDiff,Nat.reduceAdd,Nat.reduceSub,Nat.reduceMul,Int.reduceAdd,Int.reduceSub,Int.reduceMul,Int.reduceNeg,Int.reduceLE,Int.reduceLT,Int.reduceEq,Int.reduceToNat])
            refine CallA.eq rfl lives_spec rfl ?_
            (try simp only [ex,reduceIte,reduceCtorEq,Nat.reduceEqDiff,Nat.reduceLT,Nat.reduceLeDiff,Nat.reduceAdd,Nat.reduceSub,Nat.reduceMul,Int.reduceAdd,Int.reduceSub,Int.reduceMul,Int.reduceNeg,Int.reduceLE,Int.reduceLT,Int.reduceEq,Int.reduceToNat]) <;> repeat ((with_reducible refine Req.intro ?_ ?_); (first | omega | (simp <;> omega)); try simp only [ex,reduceIte,reduceCtorEq,Nat.reduceEqDiff,Nat.reduceLT,Nat.reduceLeDiff,Nat.reduceAdd,Nat.reduceSub,Nat.reduceMul,Int.reduceAdd,Int.reduceSub,Int.reduceMul,Int.reduceNeg,Int.reduceLE,Int.reduceLT,Int.reduceEq,Int.reduceToNat])
          | succ m ih =>
            intro i hi hf
            have k1 : decide ((i : Int) < (l.length : Int)) = true := by simp; omega
            have g1 : l[i]? = some (l[i]'(by omega)) := List.getElem?_eq_getElem _
            have ht : l.take (i + 1) = l.take i ++ [l[i]'(by omega)] := by rw [List.take_add_one, g1]; rfl
            generalize l[i]'(by omega) = x at *
            apply hL
            simp only [L7_1, l7_1, ex,reduceIte,reduceCtorEq,Nat.reduceEqDiff,Nat.reduceLT,Nat.reduceLeDiff,Nat.reduceAdd,Nat.reduceSub,Nat.reduceMul,Int.reduceAdd,Int.reduceSub,Int.reduceMul,Int.reduceNeg,Int.reduceLE,Int.reduceLT,Int.reduceEq,Int.reduceToNat]
            (try simp only [k1, g1, ex,reduceIte,reduceCtorEq,Nat.reduceEqDiff,Nat.reduceLT,Nat.reduceLeDiff,Nat.reduceAdd,Nat.reduceSub,Nat.reduceMul,Int.reduceAdd,Int.reduceSub,Int.reduceMul,Int.reduceNeg,Int.reduceLE,Int.reduceLT,Int.reduceEq,Int.reduceToNat]) <;> repeat ((with_reducible refine Req.intro ?_ ?_); (first | omega | (simp <;> omega)); try simp only [k1, g1, ex,reduceIte,reduceCtorEq,Nat.reduceEqDiff,Nat.reduceLT,Nat.reduceLeDiff,Nat.reduceAdd,Nat.reduceSub,Nat.reduceMul,Int.reduceAdd,Int.reduceSub,Int.reduceMul,Int.reduceNeg,Int.reduceLE,Int.reduceLT,Int.reduceEq,Int.reduceToNat])
            refine CallA.eq rfl (few_spec x) rfl ?_
            (try simp only [ex,reduceIte,reduceCtorEq,Nat.reduceEqDiff,Nat.reduceLT,Nat.reduceLeDiff,Nat.reduceAdd,Nat.reduceSub,Nat.reduceMul,Int.reduceAdd,Int.reduceSub,Int.reduceMul,Int.reduceNeg,Int.reduceLE,Int.reduceLT,Int.reduceEq,Int.reduceToNat]) <;> repeat ((with_reducible refine Req.intro ?_ ?_); (first | omega | (simp <;> omega)); try simp only [ex,reduceIte,reduceCtorEq,Nat.reduceEqDiff,Nat.reduceLT,Nat.reduceLeDiff,Nat.reduceAdd,Nat.reduceSub,Nat.reduceMul,Int.reduceAdd,Int.reduceSub,Int.reduceMul,Int.reduceNeg,Int.reduceLE,Int.reduceLT,Int.reduceEq,Int.reduceToNat])
            refine ifB.intro (fun q => ?_) (fun q => ?_)
            · (try simp only [q, ex,reduceIte,reduceCtorEq,Nat.reduceEqDiff,Nat.reduceLT,Nat.reduceLeDiff,Nat.reduceAdd,Nat.reduceSub,Nat.reduceMul,Int.reduceAdd,Int.reduceSub,Int.reduceMul,Int.reduceNeg,Int.reduceLE,Int.reduceLT,Int.reduceEq,Int.reduceToNat]) <;> repeat ((with_reducible refine Req.intro ?_ ?_); (first | omega | (simp <;> omega)); try simp only [q, ex,reduceIte,reduceCtorEq,Nat.reduceEqDiff,Nat.reduceLT,Nat.reduceLeDiff,Nat.reduceAdd,Nat.reduceSub,Nat.reduceMul,Int.reduceAdd,Int.reduceSub,Int.reduceMul,Int.reduceNeg,Int.reduceLE,Int.reduceLT,Int.reduceEq,Int.reduceToNat])
              exact ih (i + 1) (by omega) (fun y hy => by
                rw [ht] at hy
                rcases List.mem_append.1 hy with hy | hy
                · exact hf y hy
                · rw [List.mem_singleton] at hy; rw [hy]; exact q)
            · (try simp only [q, ex,reduceIte,reduceCtorEq,Nat.reduceEqDiff,Nat.reduceLT,Nat.reduceLeDiff,Nat.reduceAdd,Nat.reduceSub,Nat.reduceMul,Int.reduceAdd,Int.reduceSub,Int.reduceMul,Int.reduceNeg,Int.reduceLE,Int.reduceLT,Int.reduceEq,Int.reduceToNat]) <;> repeat ((with_reducible refine Req.intro ?_ ?_); (first | omega | (simp <;> omega)); try simp only [q, ex,reduceIte,reduceCtorEq,Nat.reduceEqDiff,Nat.reduceLT,Nat.reduceLeDiff,Nat.reduceAdd,Nat.reduceSub,Nat.reduceMul,Int.reduceAdd,Int.reduceSub,Int.reduceMul,Int.reduceNeg,Int.reduceLE,Int.reduceLT,Int.reduceEq,Int.reduceToNat])
              refine CallA.eq rfl lives_spec rfl ?_
              (try simp only [ex,reduceIte,reduceCtorEq,Nat.reduceEqDiff,Nat.reduceLT,Nat.reduceLeDiff,Nat.reduceAdd,Nat.reduceSub,Nat.reduceMul,Int.reduceAdd,Int.reduceSub,Int.reduceMul,Int.reduceNeg,Int.reduceLE,Int.reduceLT,Int.reduceEq,Int.reduceToNat]) <;> repeat ((with_reducible refine Req.intro ?_ ?_); (first | omega | (simp <;> omega)); try simp only [ex,reduceIte,reduceCtorEq,Nat.reduceEqDiff,Nat.reduceLT,Nat.reduceLeDiff,Nat.reduceAdd,Nat.reduceSub,Nat.reduceMul,Int.reduceAdd,Int.reduceSub,Int.reduceMul,Int.reduceNeg,Int.reduceLE,Int.reduceLT,Int.reduceEq,Int.reduceToNat])
        exact key l.length 0 (Nat.zero_add _) (by simp)
    · (try simp only [h1, ex,reduceIte,reduceCtorEq,Nat.reduceEqDiff,Nat.reduceLT,Nat.reduceLeDiff,Nat.reduceAdd,Nat.reduceSub,Nat.reduceMul,Int.reduceAdd,Int.reduceSub,Int.reduceMul,Int.reduceNeg,Int.reduceLE,Int.reduceLT,Int.reduceEq,Int.reduceToNat]) <;> repeat ((with_reducible refine Req.intro ?_ ?_); (first | omega | (simp <;> omega)); try simp only [h1, ex,reduceIte,reduceCtorEq,Nat.reduceEqDiff,Nat.reduceLT,Nat.reduceLeDiff,Nat.reduceAdd,Nat.reduceSub,Nat.reduceMul,Int.reduceAdd,Int.reduceSub,Int.reduceMul,Int.reduceNeg,Int.reduceLE,Int.reduceLT,Int.reduceEq,Int.reduceToNat])
      exact share.out
  · refine CallA.eq rfl lives_spec rfl ?_
    (try simp only [ex,reduceIte,reduceCtorEq,Nat.reduceEqDiff,Nat.reduceLT,Nat.reduceLeDiff,Nat.reduceAdd,Nat.reduceSub,Nat.reduceMul,Int.reduceAdd,Int.reduceSub,Int.reduceMul,Int.reduceNeg,Int.reduceLE,Int.reduceLT,Int.reduceEq,Int.reduceToNat]) <;> repeat ((with_reducible refine Req.intro ?_ ?_); (first | omega | (simp <;> omega)); try simp only [ex,reduceIte,reduceCtorEq,Nat.reduceEqDiff,Nat.reduceLT,Nat.reduceLeDiff,Nat.reduceAdd,Nat.reduceSub,Nat.reduceMul,Int.reduceAdd,Int.reduceSub,Int.reduceMul,Int.reduceNeg,Int.reduceLE,Int.reduceLT,Int.reduceEq,Int.reduceToNat])
end Go.Proofs.Ythphnacnjbcpiaa.E.Hs
