/- What the functions compute, and the law ThreeReads in plain lists: part 2. Conditions: none. -/
import Derived.Test.YtnodepfoahmcmaaHThreeReads1
/- Chapter 12: Parse of the reference. Conditions: none. -/
namespace Go.Proofs.Ytnodepfoahmcmaa.E.Hs
set_option linter.unusedVariables false
set_option linter.unusedSimpArgs false
set_option maxHeartbeats 20000000
set_option maxRecDepth 100000
theorem parse2_spec (s : Sx) (hs : s.length ≤ 3000) : Run tab 22 0 [.str s] [] 0 (fun r _ _ => r = outP true (parR s)) := by
  have hnl := lnG_len s []
  have hln : ∀ x ∈ lns s, x.length ≤ 1000000 := fun x hx => by
    have := lnG_el s [] x hx
    simp at this; omega
  refine enter (F := f22) rfl rfl ?_
  simp only [f22, ex,reduceIte,reduceCtorEq,Nat.reduceEqDiff,Nat.reduceLT,Nat.reduceLeDiff,Nat.reduceAdd,Nat.reduceSub,Nat.reduceMul,Int.reduceAdd,Int.reduceSub,Int.reduceMul,Int.reduceNeg,Int.reduceLE,Int.reduceLT,Int.reduceEq,Int.reduceToNat]
  (try simp only [ex,reduceIte,reduceCtorEq,Nat.reduceEqDiff,Nat.reduceLT,Nat.reduceLeDiff,Nat.reduceAdd,Nat.reduceSub,Nat.reduceMul,Int.reduceAdd,Int.reduceSub,Int.reduceMul,Int.reduceNeg,Int.reduceLE,Int.reduceLT,Int.reduceEq,Int.reduceToNat]) <;> repeat ((with_reducible refine Req.intro ?_ ?_); (first | omega | (simp <;> omega)); try simp only [ex,reduceIte,reduceCtorEq,Nat.reduceEqDiff,Nat.reduceLT,Nat.reduceLeDiff,Nat.reduceAdd,Nat.reduceSub,Nat.reduceMul,Int.reduceAdd,Int.reduceSub,Int.reduceMul,Int.reduceNeg,Int.reduceLE,Int.reduceLT,Int.reduceEq,Int.reduceToNat])
  refine CallA.eq rfl (rsplit_spec s (by omega)) rfl ?_
  unfold parR
  generalize hls : lns s = ls at *
  have hnl : ls.length ≤ 3001 := by rw [← hls]; show (lnG [] s).length ≤ 3001; omega
  clear hls
  generalize hres : parL ls [] 0 p0 = res
  (try simp only [ex,reduceIte,reduceCtorEq,Nat.reduceEqDiff,Nat.reduceLT,Nat.reduceLeDiff,Nat.reduceAdd,Nat.reduceSub,Nat.reduceMul,Int.reduceAdd,Int.reduceSub,Int.reduceMul,Int.reduceNeg,Int.reduceLE,Int.reduceLT,Int.reduceEq,Int.reduceToNat]) <;> repeat ((with_reducible refine Req.intro ?_ ?_); (first | omega | (simp <;> omega)); try simp only [ex,reduceIte,reduceCtorEq,Nat.reduceEqDiff,Nat.reduceLT,Nat.reduceLeDiff,Nat.reduceAdd,Nat.reduceSub,Nat.reduceMul,Int.reduceAdd,Int.reduceSub,Int.reduceMul,Int.reduceNeg,Int.reduceLE,Int.reduceLT,Int.reduceEq,Int.reduceToNat])
  refine loopI fun L hL => ?_
  (try simp only [ex,reduceIte,reduceCtorEq,Nat.reduceEqDiff,Nat.reduceLT,Nat.reduceLeDiff,Nat.reduceAdd,Nat.reduceSub,Nat.reduceMul,Int.reduceAdd,Int.reduceSub,Int.reduceMul,Int.reduceNeg,Int.reduceLE,Int.reduceLT,Int.reduceEq,Int.reduceToNat]) <;> repeat ((with_reducible refine Req.intro ?_ ?_); (first | omega | (simp <;> omega)); try simp only [ex,reduceIte,reduceCtorEq,Nat.reduceEqDiff,Nat.reduceLT,Nat.reduceLeDiff,Nat.reduceAdd,Nat.reduceSub,Nat.reduceMul,Int.reduceAdd,Int.reduceSub,Int.reduceMul,Int.reduceNeg,Int.reduceLE,Int.reduceLT,Int.reduceEq,Int.reduceToNat])
  have key : ∀ (m i n : Nat) (a : Int) (p : Rg) (rs : List Rg) (f : Bool), i + m = ls.length → (a = 0 ∨ a = 1 ∨ a = 2 ∨ a = 3) → (a ≠ 0 → f = true) → SzL i rs → Sz i p → parL (ls.drop i) rs a p = res →
      L (L22_1 (.sl true 1 (ls.map .str)) (.sl true 5 (rs.map rgV)) (.ptr 0 5 0 0) (.int .i64 a) (.int .i64 i) 0 (pV f p) [] n) := by
    intro m
    induction m with
    | zero =>
      intro i n a p rs f hi ha hf h1 h2 he
      have k1 : decide ((i : Int) < (ls.length : Int)) = false := by simp; omega
      rw [List.drop_of_length_le (by omega), parL] at he
      rcases ha with rfl | rfl | rfl | rfl
      · rw [if_pos rfl] at he
        subst he
        apply hL
        simp only [L22_1, l22_1, ex,reduceIte,reduceCtorEq,Nat.reduceEqDiff,Nat.reduceLT,Nat.reduceLeDiff,Nat.reduceAdd,Nat.reduceSub,Nat.reduceMul,Int.reduceAdd,Int.reduceSub,Int.reduceMul,Int.reduceNeg,Int.reduceLE,Int.reduceLT,Int.reduceEq,Int.reduceToNat]
        (try simp only [k1, lits, ex,reduceIte,reduceCtorEq,Nat.reduceEqDiff,Nat.reduceLT,Nat.reduceLeDiff,Nat.reduceAdd,Nat.reduceSub,Nat.reduceMul,Int.reduceAdd,Int.reduceSub,Int.reduceMul,Int.reduceNeg,Int.reduceLE,Int.reduceLT,Int.reduceEq,Int.reduceToNat]) <;> repeat ((with_reducible refine Req.intro ?_ ?_); (first | omega | (simp <;> omega)); try simp only [k1, lits, ex,reduceIte,reduceCtorEq,Nat.reduceEqDiff,Nat.reduceLT,Nat.reduceLeDiff,Nat.reduceAdd,Nat.reduceSub,Nat.reduceMul,Int.reduceAdd,Int.reduceSub,Int.reduceMul,Int.reduceNeg,Int.reduceLE,Int.reduceLT,Int.reduceEq,Int.reduceToNat])
        rfl
      all_goals
        rw [if_neg (by decide)] at he
        subst he
        apply hL
        simp only [L22_1, l22_1, ex,reduceIte,reduceCtorEq,Nat.reduceEqDiff,Nat.reduceLT,Nat.reduceLeDiff,Nat.reduceAdd,Nat.reduceSub,Nat.reduceMul,Int.reduceAdd,Int.reduceSub,Int.reduceMul,Int.reduceNeg,Int.reduceLE,Int.reduceLT,Int.reduceEq,Int.reduceToNat]
        (try simp only [k1, lits, ex,reduceIte,reduceCtorEq,Nat.reduceEqDiff,Nat.reduceLT,Nat.reduceLeDiff,Nat.reduceAdd,Nat.reduceSub,Nat.reduceMul,Int.reduceAdd,Int.reduceSub,Int.reduceMul,Int.reduceNeg,Int.reduceLE,Int.reduceLT,Int.reduceEq,Int.reduceToNat]) <;> repeat ((with_reducible refine Req.intro ?_ ?_); (first | omega | (simp <;> omega)); try simp only [k1, lits, ex,reduceIte,reduceCtorEq,Nat.reduceEqDiff,Nat.reduceLT,Nat.reduceLeDiff,Nat.reduceAdd,Nat.reduceSub,Nat.reduceMul,Int.reduceAdd,Int.reduceSub,Int.reduceMul,Int.reduceNeg,Int.reduceLE,Int.reduceLT,Int.reduceEq,Int.reduceToNat])
        rfl
    | succ m ih =>
      intro i n a p rs f hi ha hf h1 h2 he
      have k1 : decide ((i : Int) < (ls.length : Int)) = true := by simp; omega
      have g1 : ls[i]? = some (ls[i]'(by omega)) := List.getElem?_eq_getElem _
      have hm : ls[i]'(by omega) ∈ ls := List.getElem_mem _
      have hone : (ls.take (i + 1)).drop i = [ls[i]'(by omega)] := by
        rw [List.take_add_one, g1, List.drop_append_of_le_length (by simp; omega), List.drop_of_length_le (by rw [List.length_take]; omega)]; rfl
      rw [List.drop_eq_getElem_cons (by omega), parL] at he
      generalize ls[i]'(by omega) = l at *
      have hone2 : (List.map V.str (List.take (i + 1) ls)).drop i = [V.str l] := by rw [← List.map_drop, hone]; rfl
      have t1 : ((i : Int) + 1).toNat = i + 1 := by omega
      have hl := hln l hm
      have tk := rmark_spec l hl
      have hc := markK_cases l
      have hmk : ∃ k, k = markK l := ⟨_, rfl⟩
      obtain ⟨mk, hmk⟩ := hmk
      rw [← hmk] at tk hc
      rcases hc with rfl | rfl | rfl | rfl | rfl
      · rcases ha with rfl | rfl | rfl | rfl
        · have hq : stP l rs 0 p = some (addC rs [l], 0, p) := by simp [stP, ← hmk]
          rw [hq] at he
          have z := stP_sz hq h1 h2
          have bz := h2
          have zb := h1.1
          unfold Sz at bz
          have h9 := fun n => ih (i + 1) n 0 p (addC rs [l]) f (by omega) (by decide) (fun q => (q rfl).elim) z.1 z.2 he
          simp only [pV, List.map_append, List.map_cons, List.map_nil] at h9
          apply hL
          simp only [L22_1, l22_1, pV, ex,reduceIte,reduceCtorEq,Nat.reduceEqDiff,Nat.reduceLT,Nat.reduceLeDiff,Nat.reduceAdd,Nat.reduceSub,Nat.reduceMul,Int.reduceAdd,Int.reduceSub,Int.reduceMul,Int.reduceNeg,Int.reduceLE,Int.reduceLT,Int.reduceEq,Int.reduceToNat]
          (try simp only [k1, g1, ex,reduceIte,reduceCtorEq,Nat.reduceEqDiff,Nat.reduceLT,Nat.reduceLeDiff,Nat.reduceAdd,Nat.reduceSub,Nat.reduceMul,Int.reduceAdd,Int.reduceSub,Int.reduceMul,Int.reduceNeg,Int.reduceLE,Int.reduceLT,Int.reduceEq,Int.reduceToNat]) <;> repeat ((with_reducible refine Req.intro ?_ ?_); (first | omega | (simp <;> omega)); try simp only [k1, g1, ex,reduceIte,reduceCtorEq,Nat.reduceEqDiff,Nat.reduceLT,Nat.reduceLeDiff,Nat.reduceAdd,Nat.reduceSub,Nat.reduceMul,Int.reduceAdd,Int.reduceSub,Int.reduceMul,Int.reduceNeg,Int.reduceLE,Int.reduceLT,Int.reduceEq,Int.reduceToNat])
          refine CallA.eq rfl tk rfl ?_
          (try simp only [k1, g1, t1, hone2, lits, List.length_singleton, ex,reduceIte,reduceCtorEq,Nat.reduceEqDiff,Nat.reduceLT,Nat.reduceLeDiff,Nat.reduceAdd,Nat.reduceSub,Nat.reduceMul,Int.reduceAdd,Int.reduceSub,Int.reduceMul,Int.reduceNeg,Int.reduceLE,Int.reduceLT,Int.reduceEq,Int.reduceToNat]) <;> repeat ((with_reducible refine Req.intro ?_ ?_); (first | omega | (simp <;> omega)); try simp only [k1, g1, t1, hone2, lits, List.length_singleton, ex,reduceIte,reduceCtorEq,Nat.reduceEqDiff,Nat.reduceLT,Nat.reduceLeDiff,Nat.reduceAdd,Nat.reduceSub,Nat.reduceMul,Int.reduceAdd,Int.reduceSub,Int.reduceMul,Int.reduceNeg,Int.reduceLE,Int.reduceLT,Int.reduceEq,Int.reduceToNat])
          refine CallA.eq rfl (rclean_spec _ rs [l] (h1.ok (by omega)) (by simp)) rfl ?_
          (try simp only [t1, hone2, lits, ex,reduceIte,reduceCtorEq,Nat.reduceEqDiff,Nat.reduceLT,Nat.reduceLeDiff,Nat.reduceAdd,Nat.reduceSub,Nat.reduceMul,Int.reduceAdd,Int.reduceSub,Int.reduceMul,Int.reduceNeg,Int.reduceLE,Int.reduceLT,Int.reduceEq,Int.reduceToNat]) <;> repeat ((with_reducible refine Req.intro ?_ ?_); (first | omega | (simp <;> omega)); try simp only [t1, hone2, lits, ex,reduceIte,reduceCtorEq,Nat.reduceEqDiff,Nat.reduceLT,Nat.reduceLeDiff,Nat.reduceAdd,Nat.reduceSub,Nat.reduceMul,Int.reduceAdd,Int.reduceSub,Int.reduceMul,Int.reduceNeg,Int.reduceLE,Int.reduceLT,Int.reduceEq,Int.reduceToNat])
          exact h9 _
        · have hq : stP l rs 1 p = some (rs, 1, ⟨p.k, p.l, p.o ++ [l], p.b, p.t⟩) := by simp [stP, ← hmk]
          rw [hq] at he
          have z := stP_sz hq h1 h2
          have bz := h2
          have zb := h1.1
          unfold Sz at bz
          have ef := hf (by decide)
          subst ef
          have h9 := fun n => ih (i + 1) n 1 ⟨p.k, p.l, p.o ++ [l], p.b, p.t⟩ (rs) true (by omega) (by decide) (fun _ => rfl) z.1 z.2 he
          simp only [pV, List.map_append, List.map_cons, List.map_nil] at h9
          apply hL
          simp only [L22_1, l22_1, pV, ex,reduceIte,reduceCtorEq,Nat.reduceEqDiff,Nat.reduceLT,Nat.reduceLeDiff,Nat.reduceAdd,Nat.reduceSub,Nat.reduceMul,Int.reduceAdd,Int.reduceSub,Int.reduceMul,Int.reduceNeg,Int.reduceLE,Int.reduceLT,Int.reduceEq,Int.reduceToNat]
          (try simp only [k1, g1, ex,reduceIte,reduceCtorEq,Nat.reduceEqDiff,Nat.reduceLT,Nat.reduceLeDiff,Nat.reduceAdd,Nat.reduceSub,Nat.reduceMul,Int.reduceAdd,Int.reduceSub,Int.reduceMul,Int.reduceNeg,Int.reduceLE,Int.reduceLT,Int.reduceEq,Int.reduceToNat]) <;> repeat ((with_reducible refine Req.intro ?_ ?_); (first | omega | (simp <;> omega)); try simp only [k1, g1, ex,reduceIte,reduceCtorEq,Nat.reduceEqDiff,Nat.reduceLT,Nat.reduceLeDiff,Nat.reduceAdd,Nat.reduceSub,Nat.reduceMul,Int.reduceAdd,Int.reduceSub,Int.reduceMul,Int.reduceNeg,Int.reduceLE,Int.reduceLT,Int.reduceEq,Int.reduceToNat])
          refine CallA.eq rfl tk rfl ?_
          (try simp only [k1, g1, t1, hone2, lits, List.length_singleton, ex,reduceIte,reduceCtorEq,Nat.reduceEqDiff,Nat.reduceLT,Nat.reduceLeDiff,Nat.reduceAdd,Nat.reduceSub,Nat.reduceMul,Int.reduceAdd,Int.reduceSub,Int.reduceMul,Int.reduceNeg,Int.reduceLE,Int.reduceLT,Int.reduceEq,Int.reduceToNat]) <;> repeat ((with_reducible refine Req.intro ?_ ?_); (first | omega | (simp <;> omega)); try simp only [k1, g1, t1, hone2, lits, List.length_singleton, ex,reduceIte,reduceCtorEq,Nat.reduceEqDiff,Nat.reduceLT,Nat.reduceLeDiff,Nat.reduceAdd,Nat.reduceSub,Nat.reduceMul,Int.reduceAdd,Int.reduceSub,Int.reduceMul,Int.reduceNeg,Int.reduceLE,Int.reduceLT,Int.reduceEq,Int.reduceToNat])
          exact h9 _
        · have hq : stP l rs 2 p = some (rs, 2, ⟨p.k, p.l, p.o, p.b ++ [l], p.t⟩) := by simp [stP, ← hmk]
          rw [hq] at he
          have z := stP_sz hq h1 h2
          have bz := h2
          have zb := h1.1
          unfold Sz at bz
          have ef := hf (by decide)
          subst ef
          have h9 := fun n => ih (i + 1) n 2 ⟨p.k, p.l, p.o, p.b ++ [l], p.t⟩ (rs) true (by omega) (by decide) (fun _ => rfl) z.1 z.2 he
          simp only [pV, List.map_append, List.map_cons, List.map_nil] at h9
          apply hL
          simp only [L22_1, l22_1, pV, ex,reduceIte,reduceCtorEq,Nat.reduceEqDiff,Nat.reduceLT,Nat.reduceLeDiff,Nat.reduceAdd,Nat.reduceSub,Nat.reduceMul,Int.reduceAdd,Int.reduceSub,Int.reduceMul,Int.reduceNeg,Int.reduceLE,Int.reduceLT,Int.reduceEq,Int.reduceToNat]
          (try simp only [k1, g1, ex,reduceIte,reduceCtorEq,Nat.reduceEqDiff,Nat.reduceLT,Nat.reduceLeDiff,Nat.reduceAdd,Nat.reduceSub,Nat.reduceMul,Int.reduceAdd,Int.reduceSub,Int.reduceMul,Int.reduceNeg,Int.reduceLE,Int.reduceLT,Int.reduceEq,Int.reduceToNat]) <;> repeat ((with_reducible refine Req.intro ?_ ?_); (first | omega | (simp <;> omega)); try simp only [k1, g1, ex,reduceIte,reduceCtorEq,Nat.reduceEqDiff,Nat.reduceLT,Nat.reduceLeDiff,Nat.reduceAdd,Nat.reduceSub,Nat.reduceMul,Int.reduceAdd,Int.reduceSub,Int.reduceMul,Int.reduceNeg,Int.reduceLE,Int.reduceLT,Int.reduceEq,Int.reduceToNat])
          refine CallA.eq rfl tk rfl ?_
          (try simp only [k1, g1, t1, hone2, lits, List.length_singleton, ex,reduceIte,reduceCtorEq,Nat.reduceEqDiff,Nat.reduceLT,Nat.reduceLeDiff,Nat.reduceAdd,Nat.reduceSub,Nat.reduceMul,Int.reduceAdd,Int.reduceSub,Int.reduceMul,Int.reduceNeg,Int.reduceLE,Int.reduceLT,Int.reduceEq,Int.reduceToNat]) <;> repeat ((with_reducible refine Req.intro ?_ ?_); (first | omega | (simp <;> omega)); try simp only [k1, g1, t1, hone2, lits, List.length_singleton, ex,reduceIte,reduceCtorEq,Nat.reduceEqDiff,Nat.reduceLT,Nat.reduceLeDiff,Nat.reduceAdd,Nat.reduceSub,Nat.reduceMul,Int.reduceAdd,Int.reduceSub,Int.reduceMul,Int.reduceNeg,Int.reduceLE,Int.reduceLT,Int.reduceEq,Int.reduceToNat])
          exact h9 _
        · have hq : stP l rs 3 p = some (rs, 3, ⟨p.k, p.l, p.o, p.b, p.t ++ [l]⟩) := by simp [stP, ← hmk]
          rw [hq] at he
          have z := stP_sz hq h1 h2
          have bz := h2
          have zb := h1.1
          unfold Sz at bz
          have ef := hf (by decide)
          subst ef
          have h9 := fun n => ih (i + 1) n 3 ⟨p.k, p.l, p.o, p.b, p.t ++ [l]⟩ (rs) true (by omega) (by decide) (fun _ => rfl) z.1 z.2 he
          simp only [pV, List.map_append, List.map_cons, List.map_nil] at h9
          apply hL
          simp only [L22_1, l22_1, pV, ex,reduceIte,reduceCtorEq,Nat.reduceEqDiff,Nat.reduceLT,Nat.reduceLeDiff,Nat.reduceAdd,Nat.reduceSub,Nat.reduceMul,Int.reduceAdd,Int.reduceSub,Int.reduceMul,Int.reduceNeg,Int.reduceLE,Int.reduceLT,Int.reduceEq,Int.reduceToNat]
          (try simp only [k1, g1, ex,reduceIte,reduceCtorEq,Nat.reduceEqDiff,Nat.reduceLT,Nat.reduceLeDiff,Nat.reduceAdd,Nat.reduceSub,Nat.reduceMul,Int.reduceAdd,Int.reduceSub,Int.reduceMul,Int.reduceNeg,Int.reduceLE,Int.reduceLT,Int.reduceEq,Int.reduceToNat]) <;> repeat ((with_reducible refine Req.intro ?_ ?_); (first | omega | (simp <;> omega)); try simp only [k1, g1, ex,reduceIte,reduceCtorEq,Nat.reduceEqDiff,Nat.reduceLT,Nat.reduceLeDiff,Nat.reduceAdd,Nat.reduceSub,Nat.reduceMul,Int.reduceAdd,Int.reduceSub,Int.reduceMul,Int.reduceNeg,Int.reduceLE,Int.reduceLT,Int.reduceEq,Int.reduceToNat])
          refine CallA.eq rfl tk rfl ?_
          (try simp only [k1, g1, t1, hone2, lits, List.length_singleton, ex,reduceIte,reduceCtorEq,Nat.reduceEqDiff,Nat.reduceLT,Nat.reduceLeDiff,Nat.reduceAdd,Nat.reduceSub,Nat.reduceMul,Int.reduceAdd,Int.reduceSub,Int.reduceMul,Int.reduceNeg,Int.reduceLE,Int.reduceLT,Int.reduceEq,Int.reduceToNat]) <;> repeat ((with_reducible refine Req.intro ?_ ?_); (first | omega | (simp <;> omega)); try simp only [k1, g1, t1, hone2, lits, List.length_singleton, ex,reduceIte,reduceCtorEq,Nat.reduceEqDiff,Nat.reduceLT,Nat.reduceLeDiff,Nat.reduceAdd,Nat.reduceSub,Nat.reduceMul,Int.reduceAdd,Int.reduceSub,Int.reduceMul,Int.reduceNeg,Int.reduceLE,Int.reduceLT,Int.reduceEq,Int.reduceToNat])
          exact h9 _
      · rcases ha with rfl | rfl | rfl | rfl
        · have hq : stP l rs 0 p = some (rs, 1, ⟨2, [], [], [], []⟩) := by simp [stP, ← hmk]
          rw [hq] at he
          have z := stP_sz hq h1 h2
          have bz := h2
          have zb := h1.1
          unfold Sz at bz
          have h9 := fun n => ih (i + 1) n 1 ⟨2, [], [], [], []⟩ (rs) true (by omega) (by decide) (fun _ => rfl) z.1 z.2 he
          simp only [pV, List.map_append, List.map_cons, List.map_nil] at h9
          apply hL
          simp only [L22_1, l22_1, pV, ex,reduceIte,reduceCtorEq,Nat.reduceEqDiff,Nat.reduceLT,Nat.reduceLeDiff,Nat.reduceAdd,Nat.reduceSub,Nat.reduceMul,Int.reduceAdd,Int.reduceSub,Int.reduceMul,Int.reduceNeg,Int.reduceLE,Int.reduceLT,Int.reduceEq,Int.reduceToNat]
          (try simp only [k1, g1, ex,reduceIte,reduceCtorEq,Nat.reduceEqDiff,Nat.reduceLT,Nat.reduceLeDiff,Nat.reduceAdd,Nat.reduceSub,Nat.reduceMul,Int.reduceAdd,Int.reduceSub,Int.reduceMul,Int.reduceNeg,Int.reduceLE,Int.reduceLT,Int.reduceEq,Int.reduceToNat]) <;> repeat ((with_reducible refine Req.intro ?_ ?_); (first | omega | (simp <;> omega)); try simp only [k1, g1, ex,reduceIte,reduceCtorEq,Nat.reduceEqDiff,Nat.reduceLT,Nat.reduceLeDiff,Nat.reduceAdd,Nat.reduceSub,Nat.reduceMul,Int.reduceAdd,Int.reduceSub,Int.reduceMul,Int.reduceNeg,Int.reduceLE,Int.reduceLT,Int.reduceEq,Int.reduceToNat])
          refine CallA.eq rfl tk rfl ?_
          (try simp only [k1, g1, t1, hone2, lits, List.length_singleton, ex,reduceIte,reduceCtorEq,Nat.reduceEqDiff,Nat.reduceLT,Nat.reduceLeDiff,Nat.reduceAdd,Nat.reduceSub,Nat.reduceMul,Int.reduceAdd,Int.reduceSub,Int.reduceMul,Int.reduceNeg,Int.reduceLE,Int.reduceLT,Int.reduceEq,Int.reduceToNat]) <;> repeat ((with_reducible refine Req.intro ?_ ?_); (first | omega | (simp <;> omega)); try simp only [k1, g1, t1, hone2, lits, List.length_singleton, ex,reduceIte,reduceCtorEq,Nat.reduceEqDiff,Nat.reduceLT,Nat.reduceLeDiff,Nat.reduceAdd,Nat.reduceSub,Nat.reduceMul,Int.reduceAdd,Int.reduceSub,Int.reduceMul,Int.reduceNeg,Int.reduceLE,Int.reduceLT,Int.reduceEq,Int.reduceToNat])
          exact h9 _
        · have hq : stP l rs 1 p = none := by simp [stP, ← hmk]
          rw [hq] at he
          have he : none = res := he
          subst he
          apply hL
          simp only [L22_1, l22_1, pV, ex,reduceIte,reduceCtorEq,Nat.reduceEqDiff,Nat.reduceLT,Nat.reduceLeDiff,Nat.reduceAdd,Nat.reduceSub,Nat.reduceMul,Int.reduceAdd,Int.reduceSub,Int.reduceMul,Int.reduceNeg,Int.reduceLE,Int.reduceLT,Int.reduceEq,Int.reduceToNat]
          (try simp only [k1, g1, ex,reduceIte,reduceCtorEq,Nat.reduceEqDiff,Nat.reduceLT,Nat.reduceLeDiff,Nat.reduceAdd,Nat.reduceSub,Nat.reduceMul,Int.reduceAdd,Int.reduceSub,Int.reduceMul,Int.reduceNeg,Int.reduceLE,Int.reduceLT,Int.reduceEq,Int.reduceToNat]) <;> repeat ((with_reducible refine Req.intro ?_ ?_); (first | omega | (simp <;> omega)); try simp only [k1, g1, ex,reduceIte,reduceCtorEq,Nat.reduceEqDiff,Nat.reduceLT,Nat.reduceLeDiff,Nat.reduceAdd,Nat.reduceSub,Nat.reduceMul,Int.reduceAdd,Int.reduceSub,Int.reduceMul,Int.reduceNeg,Int.reduceLE,Int.reduceLT,Int.reduceEq,Int.reduceToNat])
          refine CallA.eq rfl tk rfl ?_
          (try simp only [k1, g1, t1, hone2, lits, List.length_singleton, ex,reduceIte,reduceCtorEq,Nat.reduceEqDiff,Nat.reduceLT,Nat.reduceLeDiff,Nat.reduceAdd,Nat.reduceSub,Nat.reduceMul,Int.reduceAdd,Int.reduceSub,Int.reduceMul,Int.reduceNeg,Int.reduceLE,Int.reduceLT,Int.reduceEq,Int.reduceToNat]) <;> repeat ((with_reducible refine Req.intro ?_ ?_); (first | omega | (simp <;> omega)); try simp only [k1, g1, t1, hone2, lits, List.length_singleton, ex,reduceIte,reduceCtorEq,Nat.reduceEqDiff,Nat.reduceLT,Nat.reduceLeDiff,Nat.reduceAdd,Nat.reduceSub,Nat.reduceMul,Int.reduceAdd,Int.reduceSub,Int.reduceMul,Int.reduceNeg,Int.reduceLE,Int.reduceLT,Int.reduceEq,Int.reduceToNat])
          rfl
        · have hq : stP l rs 2 p = none := by simp [stP, ← hmk]
          rw [hq] at he
          have he : none = res := he
          subst he
          apply hL
          simp only [L22_1, l22_1, pV, ex,reduceIte,reduceCtorEq,Nat.reduceEqDiff,Nat.reduceLT,Nat.reduceLeDiff,Nat.reduceAdd,Nat.reduceSub,Nat.reduceMul,Int.reduceAdd,Int.reduceSub,Int.reduceMul,Int.reduceNeg,Int.reduceLE,Int.reduceLT,Int.reduceEq,Int.reduceToNat]
          (try simp only [k1, g1, ex,reduceIte,reduceCtorEq,Nat.reduceEqDiff,Nat.reduceLT,Nat.reduceLeDiff,Nat.reduceAdd,Nat.reduceSub,Nat.reduceMul,Int.reduceAdd,Int.reduceSub,Int.reduceMul,Int.reduceNeg,Int.reduceLE,Int.reduceLT,Int.reduceEq,Int.reduceToNat]) <;> repeat ((with_reducible refine Req.intro ?_ ?_); (first | omega | (simp <;> omega)); try simp only [k1, g1, ex,reduceIte,reduceCtorEq,Nat.reduceEqDiff,Nat.reduceLT,Nat.reduceLeDiff,Nat.reduceAdd,Nat.reduceSub,Nat.reduceMul,Int.reduceAdd,Int.reduceSub,Int.reduceMul,Int.reduceNeg,Int.reduceLE,Int.reduceLT,Int.reduceEq,Int.reduceToNat])
          refine CallA.eq rfl tk rfl ?_
          (try simp only [k1, g1, t1, hone2, lits, List.length_singleton, ex,reduceIte,reduceCtorEq,Nat.reduceEqDiff,Nat.reduceLT,Nat.reduceLeDiff,Nat.reduceAdd,Nat.reduceSub,Nat.reduceMul,Int.reduceAdd,Int.reduceSub,Int.reduceMul,Int.reduceNeg,Int.reduceLE,Int.reduceLT,Int.reduceEq,Int.reduceToNat]) <;> repeat ((with_reducible refine Req.intro ?_ ?_); (first | omega | (simp <;> omega)); try simp only [k1, g1, t1, hone2, lits, List.length_singleton, ex,reduceIte,reduceCtorEq,Nat.reduceEqDiff,Nat.reduceLT,Nat.reduceLeDiff,Nat.reduceAdd,Nat.reduceSub,Nat.reduceMul,Int.reduceAdd,Int.reduceSub,Int.reduceMul,Int.reduceNeg,Int.reduceLE,Int.reduceLT,Int.reduceEq,Int.reduceToNat])
          rfl
        · have hq : stP l rs 3 p = none := by simp [stP, ← hmk]
          rw [hq] at he
          have he : none = res := he
          subst he
          apply hL
          simp only [L22_1, l22_1, pV, ex,reduceIte,reduceCtorEq,Nat.reduceEqDiff,Nat.reduceLT,Nat.reduceLeDiff,Nat.reduceAdd,Nat.reduceSub,Nat.reduceMul,Int.reduceAdd,Int.reduceSub,Int.reduceMul,Int.reduceNeg,Int.reduceLE,Int.reduceLT,Int.reduceEq,Int.reduceToNat]
          (try simp only [k1, g1, ex,reduceIte,reduceCtorEq,Nat.reduceEqDiff,Nat.reduceLT,Nat.reduceLeDiff,Nat.reduceAdd,Nat.reduceSub,Nat.reduceMul,Int.reduceAdd,Int.reduceSub,Int.reduceMul,Int.reduceNeg,Int.reduceLE,Int.reduceLT,Int.reduceEq,Int.reduceToNat]) <;> repeat ((with_reducible refine Req.intro ?_ ?_); (first | omega | (simp <;> omega)); try simp only [k1, g1, ex,reduceIte,reduceCtorEq,Nat.reduceEqDiff,Nat.reduceLT,Nat.reduceLeDiff,Nat.reduceAdd,Nat.reduceSub,Nat.reduceMul,Int.reduceAdd,Int.reduceSub,Int.reduceMul,Int.reduceNeg,Int.reduceLE,Int.reduceLT,Int.reduceEq,Int.reduceToNat])
          refine CallA.eq rfl tk rfl ?_
          (try simp only [k1, g1, t1, hone2, lits, List.length_singleton, ex,reduceIte,reduceCtorEq,Nat.reduceEqDiff,Nat.reduceLT,Nat.reduceLeDiff,Nat.reduceAdd,Nat.reduceSub,Nat.reduceMul,Int.reduceAdd,Int.reduceSub,Int.reduceMul,Int.reduceNeg,Int.reduceLE,Int.reduceLT,Int.reduceEq,Int.reduceToNat]) <;> repeat ((with_reducible refine Req.intro ?_ ?_); (first | omega | (simp <;> omega)); try simp only [k1, g1, t1, hone2, lits, List.length_singleton, ex,reduceIte,reduceCtorEq,Nat.reduceEqDiff,Nat.reduceLT,Nat.reduceLeDiff,Nat.reduceAdd,Nat.reduceSub,Nat.reduceMul,Int.reduceAdd,Int.reduceSub,Int.reduceMul,Int.reduceNeg,Int.reduceLE,Int.reduceLT,Int.reduceEq,Int.reduceToNat])
          rfl
      · rcases ha with rfl | rfl | rfl | rfl
        · have hq : stP l rs 0 p = none := by simp [stP, ← hmk]
          rw [hq] at he
          have he : none = res := he
          subst he
          apply hL
          simp only [L22_1, l22_1, pV, ex,reduceIte,reduceCtorEq,Nat.reduceEqDiff,Nat.reduceLT,Nat.reduceLeDiff,Nat.reduceAdd,Nat.reduceSub,Nat.reduceMul,Int.reduceAdd,Int.reduceSub,Int.reduceMul,Int.reduceNeg,Int.reduceLE,Int.reduceLT,Int.reduceEq,Int.reduceToNat]
          (try simp only [k1, g1, ex,reduceIte,reduceCtorEq,Nat.reduceEqDiff,Nat.reduceLT,Nat.reduceLeDiff,Nat.reduceAdd,Nat.reduceSub,Nat.reduceMul,Int.reduceAdd,Int.reduceSub,Int.reduceMul,Int.reduceNeg,Int.reduceLE,Int.reduceLT,Int.reduceEq,Int.reduceToNat]) <;> repeat ((with_reducible refine Req.intro ?_ ?_); (first | omega | (simp <;> omega)); try simp only [k1, g1, ex,reduceIte,reduceCtorEq,Nat.reduceEqDiff,Nat.reduceLT,Nat.reduceLeDiff,Nat.reduceAdd,Nat.reduceSub,Nat.reduceMul,Int.reduceAdd,Int.reduceSub,Int.reduceMul,Int.reduceNeg,Int.reduceLE,Int.reduceLT,Int.reduceEq,Int.reduceToNat])
          refine CallA.eq rfl tk rfl ?_
          (try simp only [k1, g1, t1, hone2, lits, List.length_singleton, ex,reduceIte,reduceCtorEq,Nat.reduceEqDiff,Nat.reduceLT,Nat.reduceLeDiff,Nat.reduceAdd,Nat.reduceSub,Nat.reduceMul,Int.reduceAdd,Int.reduceSub,Int.reduceMul,Int.reduceNeg,Int.reduceLE,Int.reduceLT,Int.reduceEq,Int.reduceToNat]) <;> repeat ((with_reducible refine Req.intro ?_ ?_); (first | omega | (simp <;> omega)); try simp only [k1, g1, t1, hone2, lits, List.length_singleton, ex,reduceIte,reduceCtorEq,Nat.reduceEqDiff,Nat.reduceLT,Nat.reduceLeDiff,Nat.reduceAdd,Nat.reduceSub,Nat.reduceMul,Int.reduceAdd,Int.reduceSub,Int.reduceMul,Int.reduceNeg,Int.reduceLE,Int.reduceLT,Int.reduceEq,Int.reduceToNat])
          rfl
        · have hq : stP l rs 1 p = some (rs, 2, p) := by simp [stP, ← hmk]
          rw [hq] at he
          have z := stP_sz hq h1 h2
          have bz := h2
          have zb := h1.1
          unfold Sz at bz
          have ef := hf (by decide)
          subst ef
          have h9 := fun n => ih (i + 1) n 2 p (rs) true (by omega) (by decide) (fun _ => rfl) z.1 z.2 he
          simp only [pV, List.map_append, List.map_cons, List.map_nil] at h9
          apply hL
          simp only [L22_1, l22_1, pV, ex,reduceIte,reduceCtorEq,Nat.reduceEqDiff,Nat.reduceLT,Nat.reduceLeDiff,Nat.reduceAdd,Nat.reduceSub,Nat.reduceMul,Int.reduceAdd,Int.reduceSub,Int.reduceMul,Int.reduceNeg,Int.reduceLE,Int.reduceLT,Int.reduceEq,Int.reduceToNat]
          (try simp only [k1, g1, ex,reduceIte,reduceCtorEq,Nat.reduceEqDiff,Nat.reduceLT,Nat.reduceLeDiff,Nat.reduceAdd,Nat.reduceSub,Nat.reduceMul,Int.reduceAdd,Int.reduceSub,Int.reduceMul,Int.reduceNeg,Int.reduceLE,Int.reduceLT,Int.reduceEq,Int.reduceToNat]) <;> repeat ((with_reducible refine Req.intro ?_ ?_); (first | omega | (simp <;> omega)); try simp only [k1, g1, ex,reduceIte,reduceCtorEq,Nat.reduceEqDiff,Nat.reduceLT,Nat.reduceLeDiff,Nat.reduceAdd,Nat.reduceSub,Nat.reduceMul,Int.reduceAdd,Int.reduceSub,Int.reduceMul,Int.reduceNeg,Int.reduceLE,Int.reduceLT,Int.reduceEq,Int.reduceToNat])
          refine CallA.eq rfl tk rfl ?_
          (try simp only [k1, g1, t1, hone2, lits, List.length_singleton, ex,reduceIte,reduceCtorEq,Nat.reduceEqDiff,Nat.reduceLT,Nat.reduceLeDiff,Nat.reduceAdd,Nat.reduceSub,Nat.reduceMul,Int.reduceAdd,Int.reduceSub,Int.reduceMul,Int.reduceNeg,Int.reduceLE,Int.reduceLT,Int.reduceEq,Int.reduceToNat]) <;> repeat ((with_reducible refine Req.intro ?_ ?_); (first | omega | (simp <;> omega)); try simp only [k1, g1, t1, hone2, lits, List.length_singleton, ex,reduceIte,reduceCtorEq,Nat.reduceEqDiff,Nat.reduceLT,Nat.reduceLeDiff,Nat.reduceAdd,Nat.reduceSub,Nat.reduceMul,Int.reduceAdd,Int.reduceSub,Int.reduceMul,Int.reduceNeg,Int.reduceLE,Int.reduceLT,Int.reduceEq,Int.reduceToNat])
          exact h9 _
        · have hq : stP l rs 2 p = none := by simp [stP, ← hmk]
          rw [hq] at he
          have he : none = res := he
          subst he
          apply hL
          simp only [L22_1, l22_1, pV, ex,reduceIte,reduceCtorEq,Nat.reduceEqDiff,Nat.reduceLT,Nat.reduceLeDiff,Nat.reduceAdd,Nat.reduceSub,Nat.reduceMul,Int.reduceAdd,Int.reduceSub,Int.reduceMul,Int.reduceNeg,Int.reduceLE,Int.reduceLT,Int.reduceEq,Int.reduceToNat]
          (try simp only [k1, g1, ex,reduceIte,reduceCtorEq,Nat.reduceEqDiff,Nat.reduceLT,Nat.reduceLeDiff,Nat.reduceAdd,Nat.reduceSub,Nat.reduceMul,Int.reduceAdd,Int.reduceSub,Int.reduceMul,Int.reduceNeg,Int.reduceLE,Int.reduceLT,Int.reduceEq,Int.reduceToNat]) <;> repeat ((with_reducible refine Req.intro ?_ ?_); (first | omega | (simp <;> omega)); try simp only [k1, g1, ex,reduceIte,reduceCtorEq,Nat.reduceEqDiff,Nat.reduceLT,Nat.reduceLeDiff,Nat.reduceAdd,Nat.reduceSub,Nat.reduceMul,Int.reduceAdd,Int.reduceSub,Int.reduceMul,Int.reduceNeg,Int.reduceLE,Int.reduceLT,Int.reduceEq,Int.reduceToNat])
          refine CallA.eq rfl tk rfl ?_
          (try simp only [k1, g1, t1, hone2, lits, List.length_singleton, ex,reduceIte,reduceCtorEq,Nat.reduceEqDiff,Nat.reduceLT,Nat.reduceLeDiff,Nat.reduceAdd,Nat.reduceSub,Nat.reduceMul,Int.reduceAdd,Int.reduceSub,Int.reduceMul,Int.reduceNeg,Int.reduceLE,Int.reduceLT,Int.reduceEq,Int.reduceToNat]) <;> repeat ((with_reducible refine Req.intro ?_ ?_); (first | omega | (simp <;> omega)); try simp only [k1, g1, t1, hone2, lits, List.length_singleton, ex,reduceIte,reduceCtorEq,Nat.reduceEqDiff,Nat.reduceLT,Nat.reduceLeDiff,Nat.reduceAdd,Nat.reduceSub,Nat.reduceMul,Int.reduceAdd,Int.reduceSub,Int.reduceMul,Int.reduceNeg,Int.reduceLE,Int.reduceLT,Int.reduceEq,Int.reduceToNat])
          rfl
        · have hq : stP l rs 3 p = none := by simp [stP, ← hmk]
          rw [hq] at he
          have he : none = res := he
          subst he
          apply hL
          simp only [L22_1, l22_1, pV, ex,reduceIte,reduceCtorEq,Nat.reduceEqDiff,Nat.reduceLT,Nat.reduceLeDiff,Nat.reduceAdd,Nat.reduceSub,Nat.reduceMul,Int.reduceAdd,Int.reduceSub,Int.reduceMul,Int.reduceNeg,Int.reduceLE,Int.reduceLT,Int.reduceEq,Int.reduceToNat]
          (try simp only [k1, g1, ex,reduceIte,reduceCtorEq,Nat.reduceEqDiff,Nat.reduceLT,Nat.reduceLeDiff,Nat.reduceAdd,Nat.reduceSub,Nat.reduceMul,Int.reduceAdd,Int.reduceSub,Int.reduceMul,Int.reduceNeg,Int.reduceLE,Int.reduceLT,Int.reduceEq,Int.reduceToNat]) <;> repeat ((with_reducible refine Req.intro ?_ ?_); (first | omega | (simp <;> omega)); try simp only [k1, g1, ex,reduceIte,reduceCtorEq,Nat.reduceEqDiff,Nat.reduceLT,Nat.reduceLeDiff,Nat.reduceAdd,Nat.reduceSub,Nat.reduceMul,Int.reduceAdd,Int.reduceSub,Int.reduceMul,Int.reduceNeg,Int.reduceLE,Int.reduceLT,Int.reduceEq,Int.reduceToNat])
          refine CallA.eq rfl tk rfl ?_
          (try simp only [k1, g1, t1, hone2, lits, List.length_singleton, ex,reduceIte,reduceCtorEq,Nat.reduceEqDiff,Nat.reduceLT,Nat.reduceLeDiff,Nat.reduceAdd,Nat.reduceSub,Nat.reduceMul,Int.reduceAdd,Int.reduceSub,Int.reduceMul,Int.reduceNeg,Int.reduceLE,Int.reduceLT,Int.reduceEq,Int.reduceToNat]) <;> repeat ((with_reducible refine Req.intro ?_ ?_); (first | omega | (simp <;> omega)); try simp only [k1, g1, t1, hone2, lits, List.length_singleton, ex,reduceIte,reduceCtorEq,Nat.reduceEqDiff,Nat.reduceLT,Nat.reduceLeDiff,Nat.reduceAdd,Nat.reduceSub,Nat.reduceMul,Int.reduceAdd,Int.reduceSub,Int.reduceMul,Int.reduceNeg,Int.reduceLE,Int.reduceLT,Int.reduceEq,Int.reduceToNat])
          rfl
      · rcases ha with rfl | rfl | rfl | rfl
        · have hq : stP l rs 0 p = none := by simp [stP, ← hmk]
          rw [hq] at he
          have he : none = res := he
          subst he
          apply hL
          simp only [L22_1, l22_1, pV, ex,reduceIte,reduceCtorEq,Nat.reduceEqDiff,Nat.reduceLT,Nat.reduceLeDiff,Nat.reduceAdd,Nat.reduceSub,Nat.reduceMul,Int.reduceAdd,Int.reduceSub,Int.reduceMul,Int.reduceNeg,Int.reduceLE,Int.reduceLT,Int.reduceEq,Int.reduceToNat]
          (try simp only [k1, g1, ex,reduceIte,reduceCtorEq,Nat.reduceEqDiff,Nat.reduceLT,Nat.reduceLeDiff,Nat.reduceAdd,Nat.reduceSub,Nat.reduceMul,Int.reduceAdd,Int.reduceSub,Int.reduceMul,Int.reduceNeg,Int.reduceLE,Int.reduceLT,Int.reduceEq,Int.reduceToNat]) <;> repeat ((with_reducible refine Req.intro ?_ ?_); (first | omega | (simp <;> omega)); try simp only [k1, g1, ex,reduceIte,reduceCtorEq,Nat.reduceEqDiff,Nat.reduceLT,Nat.reduceLeDiff,Nat.reduceAdd,Nat.reduceSub,Nat.reduceMul,Int.reduceAdd,Int.reduceSub,Int.reduceMul,Int.reduceNeg,Int.reduceLE,Int.reduceLT,Int.reduceEq,Int.reduceToNat])
          refine CallA.eq rfl tk rfl ?_
          (try simp only [k1, g1, t1, hone2, lits, List.length_singleton, ex,reduceIte,reduceCtorEq,Nat.reduceEqDiff,Nat.reduceLT,Nat.reduceLeDiff,Nat.reduceAdd,Nat.reduceSub,Nat.reduceMul,Int.reduceAdd,Int.reduceSub,Int.reduceMul,Int.reduceNeg,Int.reduceLE,Int.reduceLT,Int.reduceEq,Int.reduceToNat]) <;> repeat ((with_reducible refine Req.intro ?_ ?_); (first | omega | (simp <;> omega)); try simp only [k1, g1, t1, hone2, lits, List.length_singleton, ex,reduceIte,reduceCtorEq,Nat.reduceEqDiff,Nat.reduceLT,Nat.reduceLeDiff,Nat.reduceAdd,Nat.reduceSub,Nat.reduceMul,Int.reduceAdd,Int.reduceSub,Int.reduceMul,Int.reduceNeg,Int.reduceLE,Int.reduceLT,Int.reduceEq,Int.reduceToNat])
          rfl
        · have hq : stP l rs 1 p = some (rs, 3, p) := by simp [stP, ← hmk]
          rw [hq] at he
          have z := stP_sz hq h1 h2
          have bz := h2
          have zb := h1.1
          unfold Sz at bz
          have ef := hf (by decide)
          subst ef
          have h9 := fun n => ih (i + 1) n 3 p (rs) true (by omega) (by decide) (fun _ => rfl) z.1 z.2 he
          simp only [pV, List.map_append, List.map_cons, List.map_nil] at h9
          apply hL
          simp only [L22_1, l22_1, pV, ex,reduceIte,reduceCtorEq,Nat.reduceEqDiff,Nat.reduceLT,Nat.reduceLeDiff,Nat.reduceAdd,Nat.reduceSub,Nat.reduceMul,Int.reduceAdd,Int.reduceSub,Int.reduceMul,Int.reduceNeg,Int.reduceLE,Int.reduceLT,Int.reduceEq,Int.reduceToNat]
          (try simp only [k1, g1, ex,reduceIte,reduceCtorEq,Nat.reduceEqDiff,Nat.reduceLT,Nat.reduceLeDiff,Nat.reduceAdd,Nat.reduceSub,Nat.reduceMul,Int.reduceAdd,Int.reduceSub,Int.reduceMul,Int.reduceNeg,Int.reduceLE,Int.reduceLT,Int.reduceEq,Int.reduceToNat]) <;> repeat ((with_reducible refine Req.intro ?_ ?_); (first | omega | (simp <;> omega)); try simp only [k1, g1, ex,reduceIte,reduceCtorEq,Nat.reduceEqDiff,Nat.reduceLT,Nat.reduceLeDiff,Nat.reduceAdd,Nat.reduceSub,Nat.reduceMul,Int.reduceAdd,Int.reduceSub,Int.reduceMul,Int.reduceNeg,Int.reduceLE,Int.reduceLT,Int.reduceEq,Int.reduceToNat])
          refine CallA.eq rfl tk rfl ?_
          (try simp only [k1, g1, t1, hone2, lits, List.length_singleton, ex,reduceIte,reduceCtorEq,Nat.reduceEqDiff,Nat.reduceLT,Nat.reduceLeDiff,Nat.reduceAdd,Nat.reduceSub,Nat.reduceMul,Int.reduceAdd,Int.reduceSub,Int.reduceMul,Int.reduceNeg,Int.reduceLE,Int.reduceLT,Int.reduceEq,Int.reduceToNat]) <;> repeat ((with_reducible refine Req.intro ?_ ?_); (first | omega | (simp <;> omega)); try simp only [k1, g1, t1, hone2, lits, List.length_singleton, ex,reduceIte,reduceCtorEq,Nat.reduceEqDiff,Nat.reduceLT,Nat.reduceLeDiff,Nat.reduceAdd,Nat.reduceSub,Nat.reduceMul,Int.reduceAdd,Int.reduceSub,Int.reduceMul,Int.reduceNeg,Int.reduceLE,Int.reduceLT,Int.reduceEq,Int.reduceToNat])
          exact h9 _
        · have hq : stP l rs 2 p = some (rs, 3, p) := by simp [stP, ← hmk]
          rw [hq] at he
          have z := stP_sz hq h1 h2
          have bz := h2
          have zb := h1.1
          unfold Sz at bz
          have ef := hf (by decide)
          subst ef
          have h9 := fun n => ih (i + 1) n 3 p (rs) true (by omega) (by decide) (fun _ => rfl) z.1 z.2 he
          simp only [pV, List.map_append, List.map_cons, List.map_nil] at h9
          apply hL
          simp only [L22_1, l22_1, pV, ex,reduceIte,reduceCtorEq,Nat.reduceEqDiff,Nat.reduceLT,Nat.reduceLeDiff,Nat.reduceAdd,Nat.reduceSub,Nat.reduceMul,Int.reduceAdd,Int.reduceSub,Int.reduceMul,Int.reduceNeg,Int.reduceLE,Int.reduceLT,Int.reduceEq,Int.reduceToNat]
          (try simp only [k1, g1, ex,reduceIte,reduceCtorEq,Nat.reduceEqDiff,Nat.reduceLT,Nat.reduceLeDiff,Nat.reduceAdd,Nat.reduceSub,Nat.reduceMul,Int.reduceAdd,Int.reduceSub,Int.reduceMul,Int.reduceNeg,Int.reduceLE,Int.reduceLT,Int.reduceEq,Int.reduceToNat]) <;> repeat ((with_reducible refine Req.intro ?_ ?_); (first | omega | (simp <;> omega)); try simp only [k1, g1, ex,reduceIte,reduceCtorEq,Nat.reduceEqDiff,Nat.reduceLT,Nat.reduceLeDiff,Nat.reduceAdd,Nat.reduceSub,Nat.reduceMul,Int.reduceAdd,Int.reduceSub,Int.reduceMul,Int.reduceNeg,Int.reduceLE,Int.reduceLT,Int.reduceEq,Int.reduceToNat])
          refine CallA.eq rfl tk rfl ?_
          (try simp only [k1, g1, t1, hone2, lits, List.length_singleton, ex,reduceIte,reduceCtorEq,Nat.reduceEqDiff,Nat.reduceLT,Nat.reduceLeDiff,Nat.reduceAdd,Nat.reduceSub,Nat.reduceMul,Int.reduceAdd,Int.reduceSub,Int.reduceMul,Int.reduceNeg,Int.reduceLE,Int.reduceLT,Int.reduceEq,Int.reduceToNat]) <;> repeat ((with_reducible refine Req.intro ?_ ?_); (first | omega | (simp <;> omega)); try simp only [k1, g1, t1, hone2, lits, List.length_singleton, ex,reduceIte,reduceCtorEq,Nat.reduceEqDiff,Nat.reduceLT,Nat.reduceLeDiff,Nat.reduceAdd,Nat.reduceSub,Nat.reduceMul,Int.reduceAdd,Int.reduceSub,Int.reduceMul,Int.reduceNeg,Int.reduceLE,Int.reduceLT,Int.reduceEq,Int.reduceToNat])
          exact h9 _
        · have hq : stP l rs 3 p = none := by simp [stP, ← hmk]
          rw [hq] at he
          have he : none = res := he
          subst he
          apply hL
          simp only [L22_1, l22_1, pV, ex,reduceIte,reduceCtorEq,Nat.reduceEqDiff,Nat.reduceLT,Nat.reduceLeDiff,Nat.reduceAdd,Nat.reduceSub,Nat.reduceMul,Int.reduceAdd,Int.reduceSub,Int.reduceMul,Int.reduceNeg,Int.reduceLE,Int.reduceLT,Int.reduceEq,Int.reduceToNat]
          (try simp only [k1, g1, ex,reduceIte,reduceCtorEq,Nat.reduceEqDiff,Nat.reduceLT,Nat.reduceLeDiff,Nat.reduceAdd,Nat.reduceSub,Nat.reduceMul,Int.reduceAdd,Int.reduceSub,Int.reduceMul,Int.reduceNeg,Int.reduceLE,Int.reduceLT,Int.reduceEq,Int.reduceToNat]) <;> repeat ((with_reducible refine Req.intro ?_ ?_); (first | omega | (simp <;> omega)); try simp only [k1, g1, ex,reduceIte,reduceCtorEq,Nat.reduceEqDiff,Nat.reduceLT,Nat.reduceLeDiff,Nat.reduceAdd,Nat.reduceSub,Nat.reduceMul,Int.reduceAdd,Int.reduceSub,Int.reduceMul,Int.reduceNeg,Int.reduceLE,Int.reduceLT,Int.reduceEq,Int.reduceToNat])
          refine CallA.eq rfl tk rfl ?_
          (try simp only [k1, g1, t1, hone2, lits, List.length_singleton, ex,reduceIte,reduceCtorEq,Nat.reduceEqDiff,Nat.reduceLT,Nat.reduceLeDiff,Nat.reduceAdd,Nat.reduceSub,Nat.reduceMul,Int.reduceAdd,Int.reduceSub,Int.reduceMul,Int.reduceNeg,Int.reduceLE,Int.reduceLT,Int.reduceEq,Int.reduceToNat]) <;> repeat ((with_reducible refine Req.intro ?_ ?_); (first | omega | (simp <;> omega)); try simp only [k1, g1, t1, hone2, lits, List.length_singleton, ex,reduceIte,reduceCtorEq,Nat.reduceEqDiff,Nat.reduceLT,Nat.reduceLeDiff,Nat.reduceAdd,Nat.reduceSub,Nat.reduceMul,Int.reduceAdd,Int.reduceSub,Int.reduceMul,Int.reduceNeg,Int.reduceLE,Int.reduceLT,Int.reduceEq,Int.reduceToNat])
          rfl
      · rcases ha with rfl | rfl | rfl | rfl
        · have hq : stP l rs 0 p = none := by simp [stP, ← hmk]
          rw [hq] at he
          have he : none = res := he
          subst he
          apply hL
          simp only [L22_1, l22_1, pV, ex,reduceIte,reduceCtorEq,Nat.reduceEqDiff,Nat.reduceLT,Nat.reduceLeDiff,Nat.reduceAdd,Nat.reduceSub,Nat.reduceMul,Int.reduceAdd,Int.reduceSub,Int.reduceMul,Int.reduceNeg,Int.reduceLE,Int.reduceLT,Int.reduceEq,Int.reduceToNat]
          (try simp only [k1, g1, ex,reduceIte,reduceCtorEq,Nat.reduceEqDiff,Nat.reduceLT,Nat.reduceLeDiff,Nat.reduceAdd,Nat.reduceSub,Nat.reduceMul,Int.reduceAdd,Int.reduceSub,Int.reduceMul,Int.reduceNeg,Int.reduceLE,Int.reduceLT,Int.reduceEq,Int.reduceToNat]) <;> repeat ((with_reducible refine Req.intro ?_ ?_); (first | omega | (simp <;> omega)); try simp only [k1, g1, ex,reduceIte,reduceCtorEq,Nat.reduceEqDiff,Nat.reduceLT,Nat.reduceLeDiff,Nat.reduceAdd,Nat.reduceSub,Nat.reduceMul,Int.reduceAdd,Int.reduceSub,Int.reduceMul,Int.reduceNeg,Int.reduceLE,Int.reduceLT,Int.reduceEq,Int.reduceToNat])
          refine CallA.eq rfl tk rfl ?_
          (try simp only [k1, g1, t1, hone2, lits, List.length_singleton, ex,reduceIte,reduceCtorEq,Nat.reduceEqDiff,Nat.reduceLT,Nat.reduceLeDiff,Nat.reduceAdd,Nat.reduceSub,Nat.reduceMul,Int.reduceAdd,Int.reduceSub,Int.reduceMul,Int.reduceNeg,Int.reduceLE,Int.reduceLT,Int.reduceEq,Int.reduceToNat]) <;> repeat ((with_reducible refine Req.intro ?_ ?_); (first | omega | (simp <;> omega)); try simp only [k1, g1, t1, hone2, lits, List.length_singleton, ex,reduceIte,reduceCtorEq,Nat.reduceEqDiff,Nat.reduceLT,Nat.reduceLeDiff,Nat.reduceAdd,Nat.reduceSub,Nat.reduceMul,Int.reduceAdd,Int.reduceSub,Int.reduceMul,Int.reduceNeg,Int.reduceLE,Int.reduceLT,Int.reduceEq,Int.reduceToNat])
          rfl
        · have hq : stP l rs 1 p = none := by simp [stP, ← hmk]
          rw [hq] at he
          have he : none = res := he
          subst he
          apply hL
          simp only [L22_1, l22_1, pV, ex,reduceIte,reduceCtorEq,Nat.reduceEqDiff,Nat.reduceLT,Nat.reduceLeDiff,Nat.reduceAdd,Nat.reduceSub,Nat.reduceMul,Int.reduceAdd,Int.reduceSub,Int.reduceMul,Int.reduceNeg,Int.reduceLE,Int.reduceLT,Int.reduceEq,Int.reduceToNat]
          (try simp only [k1, g1, ex,reduceIte,reduceCtorEq,Nat.reduceEqDiff,Nat.reduceLT,Nat.reduceLeDiff,Nat.reduceAdd,Nat.reduceSub,Nat.reduceMul,Int.reduceAdd,Int.reduceSub,Int.reduceMul,Int.reduceNeg,Int.reduceLE,Int.reduceLT,Int.reduceEq,Int.reduceToNat]) <;> repeat ((with_reducible refine Req.intro ?_ ?_); (first | omega | (simp <;> omega)); try simp only [k1, g1, ex,reduceIte,reduceCtorEq,Nat.reduceEqDiff,Nat.reduceLT,Nat.reduceLeDiff,Nat.reduceAdd,Nat.reduceSub,Nat.reduceMul,Int.reduceAdd,Int.reduceSub,Int.reduceMul,Int.reduceNeg,Int.reduceLE,Int.reduceLT,Int.reduceEq,Int.reduceToNat])
          refine CallA.eq rfl tk rfl ?_
          (try simp only [k1, g1, t1, hone2, lits, List.length_singleton, ex,reduceIte,reduceCtorEq,Nat.reduceEqDiff,Nat.reduceLT,Nat.reduceLeDiff,Nat.reduceAdd,Nat.reduceSub,Nat.reduceMul,Int.reduceAdd,Int.reduceSub,Int.reduceMul,Int.reduceNeg,Int.reduceLE,Int.reduceLT,Int.reduceEq,Int.reduceToNat]) <;> repeat ((with_reducible refine Req.intro ?_ ?_); (first | omega | (simp <;> omega)); try simp only [k1, g1, t1, hone2, lits, List.length_singleton, ex,reduceIte,reduceCtorEq,Nat.reduceEqDiff,Nat.reduceLT,Nat.reduceLeDiff,Nat.reduceAdd,Nat.reduceSub,Nat.reduceMul,Int.reduceAdd,Int.reduceSub,Int.reduceMul,Int.reduceNeg,Int.reduceLE,Int.reduceLT,Int.reduceEq,Int.reduceToNat])
          rfl
        · have hq : stP l rs 2 p = none := by simp [stP, ← hmk]
          rw [hq] at he
          have he : none = res := he
          subst he
          apply hL
          simp only [L22_1, l22_1, pV, ex,reduceIte,reduceCtorEq,Nat.reduceEqDiff,Nat.reduceLT,Nat.reduceLeDiff,Nat.reduceAdd,Nat.reduceSub,Nat.reduceMul,Int.reduceAdd,Int.reduceSub,Int.reduceMul,Int.reduceNeg,Int.reduceLE,Int.reduceLT,Int.reduceEq,Int.reduceToNat]
          (try simp only [k1, g1, ex,reduceIte,reduceCtorEq,Nat.reduceEqDiff,Nat.reduceLT,Nat.reduceLeDiff,Nat.reduceAdd,Nat.reduceSub,Nat.reduceMul,Int.reduceAdd,Int.reduceSub,Int.reduceMul,Int.reduceNeg,Int.reduceLE,Int.reduceLT,Int.reduceEq,Int.reduceToNat]) <;> repeat ((with_reducible refine Req.intro ?_ ?_); (first | omega | (simp <;> omega)); try simp only [k1, g1, ex,reduceIte,reduceCtorEq,Nat.reduceEqDiff,Nat.reduceLT,Nat.reduceLeDiff,Nat.reduceAdd,Nat.reduceSub,Nat.reduceMul,Int.reduceAdd,Int.reduceSub,Int.reduceMul,Int.reduceNeg,Int.reduceLE,Int.reduceLT,Int.reduceEq,Int.reduceToNat])
          refine CallA.eq rfl tk rfl ?_
          (try simp only [k1, g1, t1, hone2, lits, List.length_singleton, ex,reduceIte,reduceCtorEq,Nat.reduceEqDiff,Nat.reduceLT,Nat.reduceLeDiff,Nat.reduceAdd,Nat.reduceSub,Nat.reduceMul,Int.reduceAdd,Int.reduceSub,Int.reduceMul,Int.reduceNeg,Int.reduceLE,Int.reduceLT,Int.reduceEq,Int.reduceToNat]) <;> repeat ((with_reducible refine Req.intro ?_ ?_); (first | omega | (simp <;> omega)); try simp only [k1, g1, t1, hone2, lits, List.length_singleton, ex,reduceIte,reduceCtorEq,Nat.reduceEqDiff,Nat.reduceLT,Nat.reduceLeDiff,Nat.reduceAdd,Nat.reduceSub,Nat.reduceMul,Int.reduceAdd,Int.reduceSub,Int.reduceMul,Int.reduceNeg,Int.reduceLE,Int.reduceLT,Int.reduceEq,Int.reduceToNat])
          rfl
        · have hq : stP l rs 3 p = some (rs ++ [p], 0, p) := by simp [stP, ← hmk]
          rw [hq] at he
          have z := stP_sz hq h1 h2
          have bz := h2
          have zb := h1.1
          unfold Sz at bz
          have h9 := fun n => ih (i + 1) n 0 p (rs ++ [p]) f (by omega) (by decide) (fun q => (q rfl).elim) z.1 z.2 he
          simp only [pV, List.map_append, List.map_cons, List.map_nil] at h9
          apply hL
          simp only [L22_1, l22_1, pV, ex,reduceIte,reduceCtorEq,Nat.reduceEqDiff,Nat.reduceLT,Nat.reduceLeDiff,Nat.reduceAdd,Nat.reduceSub,Nat.reduceMul,Int.reduceAdd,Int.reduceSub,Int.reduceMul,Int.reduceNeg,Int.reduceLE,Int.reduceLT,Int.reduceEq,Int.reduceToNat]
          (try simp only [k1, g1, ex,reduceIte,reduceCtorEq,Nat.reduceEqDiff,Nat.reduceLT,Nat.reduceLeDiff,Nat.reduceAdd,Nat.reduceSub,Nat.reduceMul,Int.reduceAdd,Int.reduceSub,Int.reduceMul,Int.reduceNeg,Int.reduceLE,Int.reduceLT,Int.reduceEq,Int.reduceToNat]) <;> repeat ((with_reducible refine Req.intro ?_ ?_); (first | omega | (simp <;> omega)); try simp only [k1, g1, ex,reduceIte,reduceCtorEq,Nat.reduceEqDiff,Nat.reduceLT,Nat.reduceLeDiff,Nat.reduceAdd,Nat.reduceSub,Nat.reduceMul,Int.reduceAdd,Int.reduceSub,Int.reduceMul,Int.reduceNeg,Int.reduceLE,Int.reduceLT,Int.reduceEq,Int.reduceToNat])
          refine CallA.eq rfl tk rfl ?_
          (try simp only [k1, g1, t1, hone2, lits, List.length_singleton, ex,reduceIte,reduceCtorEq,Nat.reduceEqDiff,Nat.reduceLT,Nat.reduceLeDiff,Nat.reduceAdd,Nat.reduceSub,Nat.reduceMul,Int.reduceAdd,Int.reduceSub,Int.reduceMul,Int.reduceNeg,Int.reduceLE,Int.reduceLT,Int.reduceEq,Int.reduceToNat]) <;> repeat ((with_reducible refine Req.intro ?_ ?_); (first | omega | (simp <;> omega)); try simp only [k1, g1, t1, hone2, lits, List.length_singleton, ex,reduceIte,reduceCtorEq,Nat.reduceEqDiff,Nat.reduceLT,Nat.reduceLeDiff,Nat.reduceAdd,Nat.reduceSub,Nat.reduceMul,Int.reduceAdd,Int.reduceSub,Int.reduceMul,Int.reduceNeg,Int.reduceLE,Int.reduceLT,Int.reduceEq,Int.reduceToNat])
          exact h9 _
  exact key ls.length 0 1 0 p0 [] true (Nat.zero_add _) (.inl rfl) (fun _ => rfl) ⟨by simp, by simp⟩ (by simp [Sz, p0]) hres
end Go.Proofs.Ytnodepfoahmcmaa.E.Hs

/- Chapter 12: Marked of both; the law ThreeReads. Conditions: none. -/
namespace Go.Proofs.Ytnodepfoahmcmaa.E.Hs
set_option linter.unusedVariables false
set_option linter.unusedSimpArgs false
set_option maxHeartbeats 20000000
set_option maxRecDepth 100000

def mkB (l : Sx) : Bool := !decide (markK l = 0)
def markedR (s : Sx) : Bool := (lns s).any mkB
theorem mfn_spec (l : Sx) (h : Heap) (n : Nat) (hl : l.length ≤ 1000000) : Run tab 46 0 [.str l] h n (fun v h' n' => v = .bool (mkB l) ∧ h' = h ∧ n ≤ n') := by
  refine enter (F := f46) rfl rfl ?_
  simp only [f46, ex,reduceIte,reduceCtorEq,Nat.reduceEqDiff,Nat.reduceLT,Nat.reduceLeDiff,Nat.reduceAdd,Nat.reduceSub,Nat.reduceMul,Int.reduceAdd,Int.reduceSub,Int.reduceMul,Int.reduceNeg,Int.reduceLE,Int.reduceLT,Int.reduceEq,Int.reduceToNat]
  have tk := tmark_spec l hl
  unfold mkB
  generalize markK l = mk at *
  refine CallA.eq rfl tk rfl ?_
  (try simp only [ex,reduceIte,reduceCtorEq,Nat.reduceEqDiff,Nat.reduceLT,Nat.reduceLeDiff,Nat.reduceAdd,Nat.reduceSub,Nat.reduceMul,Int.reduceAdd,Int.reduceSub,Int.reduceMul,Int.reduceNeg,Int.reduceLE,Int.reduceLT,Int.reduceEq,Int.reduceToNat]) <;> repeat ((with_reducible refine Req.intro ?_ ?_); (first | omega | (simp <;> omega)); try simp only [ex,reduceIte,reduceCtorEq,Nat.reduceEqDiff,Nat.reduceLT,Nat.reduceLeDiff,Nat.reduceAdd,Nat.reduceSub,Nat.reduceMul,Int.reduceAdd,Int.reduceSub,Int.reduceMul,Int.reduceNeg,Int.reduceLE,Int.reduceLT,Int.reduceEq,Int.reduceToNat])
theorem idxM_spec (o : Bool) (ls : List Sx) (h : Heap) (n : Nat) (hl : ls.length ≤ 10000) (hln : ∀ x ∈ ls, x.length ≤ 1000000) :
    Run tab 60 0 [.sl o 1 (ls.map .str), .fn 46 []] h n (fun v h' n' => (∃ i : Int, v = .int .i64 i ∧ decide (i ≥ 0) = ls.any mkB) ∧ h' = h ∧ n ≤ n') := by
  refine enter (F := f60) rfl rfl ?_
  simp only [f60, ex,reduceIte,reduceCtorEq,Nat.reduceEqDiff,Nat.reduceLT,Nat.reduceLeDiff,Nat.reduceAdd,Nat.reduceSub,Nat.reduceMul,Int.reduceAdd,Int.reduceSub,Int.reduceMul,Int.reduceNeg,Int.reduceLE,Int.reduceLT,Int.reduceEq,Int.reduceToNat]
  (try simp only [ex,reduceIte,reduceCtorEq,Nat.reduceEqDiff,Nat.reduceLT,Nat.reduceLeDiff,Nat.reduceAdd,Nat.reduceSub,Nat.reduceMul,Int.reduceAdd,Int.reduceSub,Int.reduceMul,Int.reduceNeg,Int.reduceLE,Int.reduceLT,Int.reduceEq,Int.reduceToNat]) <;> repeat ((with_reducible refine Req.intro ?_ ?_); (first | omega | (simp <;> omega)); try simp only [ex,reduceIte,reduceCtorEq,Nat.reduceEqDiff,Nat.reduceLT,Nat.reduceLeDiff,Nat.reduceAdd,Nat.reduceSub,Nat.reduceMul,Int.reduceAdd,Int.reduceSub,Int.reduceMul,Int.reduceNeg,Int.reduceLE,Int.reduceLT,Int.reduceEq,Int.reduceToNat])
  refine loopI fun L hL => ?_
  (try simp only [ex,reduceIte,reduceCtorEq,Nat.reduceEqDiff,Nat.reduceLT,Nat.reduceLeDiff,Nat.reduceAdd,Nat.reduceSub,Nat.reduceMul,Int.reduceAdd,Int.reduceSub,Int.reduceMul,Int.reduceNeg,Int.reduceLE,Int.reduceLT,Int.reduceEq,Int.reduceToNat]) <;> repeat ((with_reducible refine Req.intro ?_ ?_); (first | omega | (simp <;> omega)); try simp only [ex,reduceIte,reduceCtorEq,Nat.reduceEqDiff,Nat.reduceLT,Nat.reduceLeDiff,Nat.reduceAdd,Nat.reduceSub,Nat.reduceMul,Int.reduceAdd,Int.reduceSub,Int.reduceMul,Int.reduceNeg,Int.reduceLE,Int.reduceLT,Int.reduceEq,Int.reduceToNat])
  have key : ∀ (m i N : Nat), i + m = ls.length → n ≤ N → (ls.take i).any mkB = false → L (L60_1 (.sl o 1 (ls.map .str)) (.fn 46 []) (.int .i64 ls.length) (.int .i64 i) h N) := by
    intro m
    induction m with
    | zero =>
      intro i N hi hN ha
      have k1 : decide ((i : Int) < (ls.length : Int)) = false := by simp; omega
      rw [List.take_of_length_le (by omega)] at ha
      apply hL
      simp only [L60_1, l60_1, ex,reduceIte,reduceCtorEq,Nat.reduceEqDiff,Nat.reduceLT,Nat.reduceLeDiff,Nat.reduceAdd,Nat.reduceSub,Nat.reduceMul,Int.reduceAdd,Int.reduceSub,Int.reduceMul,Int.reduceNeg,Int.reduceLE,Int.reduceLT,Int.reduceEq,Int.reduceToNat]
      (try simp only [k1, ex,reduceIte,reduceCtorEq,Nat.reduceEqDiff,Nat.reduceLT,Nat.reduceLeDiff,Nat.reduceAdd,Nat.reduceSub,Nat.reduceMul,Int.reduceAdd,Int.reduceSub,Int.reduceMul,Int.reduceNeg,Int.reduceLE,Int.reduceLT,Int.reduceEq,Int.reduceToNat]) <;> repeat ((with_reducible refine Req.intro ?_ ?_); (first | omega | (simp <;> omega)); try simp only [k1, ex,reduceIte,reduceCtorEq,Nat.reduceEqDiff,Nat.reduceLT,Nat.reduceLeDiff,Nat.reduceAdd,Nat.reduceSub,Nat.reduceMul,Int.reduceAdd,Int.reduceSub,Int.reduceMul,Int.reduceNeg,Int.reduceLE,Int.reduceLT,Int.reduceEq,Int.reduceToNat])
      exact ⟨⟨_, rfl, by rw [ha]; decide⟩, hN⟩
    | succ m ih =>
      intro i N hi hN ha
      have k1 : decide ((i : Int) < (ls.length : Int)) = true := by simp; omega
      have g1 : ls[i]? = some (ls[i]'(by omega)) := List.getElem?_eq_getElem _
      have ht : ls.take (i + 1) = ls.take i ++ [ls[i]'(by omega)] := by rw [List.take_add_one, g1]; rfl
      have hm : ls[i]'(by omega) ∈ ls := List.getElem_mem _
      generalize ls[i]'(by omega) = l at *
      have ll := hln l hm
      apply hL
      simp only [L60_1, l60_1, ex,reduceIte,reduceCtorEq,Nat.reduceEqDiff,Nat.reduceLT,Nat.reduceLeDiff,Nat.reduceAdd,Nat.reduceSub,Nat.reduceMul,Int.reduceAdd,Int.reduceSub,Int.reduceMul,Int.reduceNeg,Int.reduceLE,Int.reduceLT,Int.reduceEq,Int.reduceToNat]
      (try simp only [k1, g1, ex,reduceIte,reduceCtorEq,Nat.reduceEqDiff,Nat.reduceLT,Nat.reduceLeDiff,Nat.reduceAdd,Nat.reduceSub,Nat.reduceMul,Int.reduceAdd,Int.reduceSub,Int.reduceMul,Int.reduceNeg,Int.reduceLE,Int.reduceLT,Int.reduceEq,Int.reduceToNat]) <;> repeat ((with_reducible refine Req.intro ?_ ?_); (first | omega | (simp <;> omega)); try simp only [k1, g1, ex,reduceIte,reduceCtorEq,Nat.reduceEqDiff,Nat.reduceLT,Nat.reduceLeDiff,Nat.reduceAdd,Nat.reduceSub,Nat.reduceMul,Int.reduceAdd,Int.reduceSub,Int.reduceMul,Int.reduceNeg,Int.reduceLE,Int.reduceLT,Int.reduceEq,Int.reduceToNat])
      refine CallH.any (mfn_spec l h N ll) ?_
      intro v h2 n2 hx
      have y1 := hx.1
      have y3 := hx.2.1
      have y4 := hx.2.2
      clear hx
      cases e1 : mkB l with
      | true =>
        rw [e1] at y1
        have ha2 : ls.any mkB = true := List.any_eq_true.2 ⟨l, hm, e1⟩
        (try simp only [y1, y3, ex,reduceIte,reduceCtorEq,Nat.reduceEqDiff,Nat.reduceLT,Nat.reduceLeDiff,Nat.reduceAdd,Nat.reduceSub,Nat.reduceMul,Int.reduceAdd,Int.reduceSub,Int.reduceMul,Int.reduceNeg,Int.reduceLE,Int.reduceLT,Int.reduceEq,Int.reduceToNat]) <;> repeat ((with_reducible refine Req.intro ?_ ?_); (first | omega | (simp <;> omega)); try simp only [y1, y3, ex,reduceIte,reduceCtorEq,Nat.reduceEqDiff,Nat.reduceLT,Nat.reduceLeDiff,Nat.reduceAdd,Nat.reduceSub,Nat.reduceMul,Int.reduceAdd,Int.reduceSub,Int.reduceMul,Int.reduceNeg,Int.reduceLE,Int.reduceLT,Int.reduceEq,Int.reduceToNat])
        exact ⟨⟨_, rfl, by rw [ha2]; simp⟩, by omega⟩
      | false =>
        rw [e1] at y1
        have h9 := fun N hN => ih (i + 1) N (by omega) hN (by rw [ht, List.any_append, ha]; simp [e1])
        (try simp only [y1, y3, ex,reduceIte,reduceCtorEq,Nat.reduceEqDiff,Nat.reduceLT,Nat.reduceLeDiff,Nat.reduceAdd,Nat.reduceSub,Nat.reduceMul,Int.reduceAdd,Int.reduceSub,Int.reduceMul,Int.reduceNeg,Int.reduceLE,Int.reduceLT,Int.reduceEq,Int.reduceToNat]) <;> repeat ((with_reducible refine Req.intro ?_ ?_); (first | omega | (simp <;> omega)); try simp only [y1, y3, ex,reduceIte,reduceCtorEq,Nat.reduceEqDiff,Nat.reduceLT,Nat.reduceLeDiff,Nat.reduceAdd,Nat.reduceSub,Nat.reduceMul,Int.reduceAdd,Int.reduceSub,Int.reduceMul,Int.reduceNeg,Int.reduceLE,Int.reduceLT,Int.reduceEq,Int.reduceToNat])
        exact h9 _ (by omega)
  exact key ls.length 0 n (Nat.zero_add _) (Nat.le_refl _) rfl
theorem cfM_spec (o : Bool) (ls : List Sx) (h : Heap) (n : Nat) (hl : ls.length ≤ 10000) (hln : ∀ x ∈ ls, x.length ≤ 1000000) :
    Run tab 45 0 [.sl o 1 (ls.map .str), .fn 46 []] h n (fun v h' n' => v = .bool (ls.any mkB) ∧ h' = h ∧ n ≤ n') := by
  refine enter (F := f45) rfl rfl ?_
  simp only [f45, ex,reduceIte,reduceCtorEq,Nat.reduceEqDiff,Nat.reduceLT,Nat.reduceLeDiff,Nat.reduceAdd,Nat.reduceSub,Nat.reduceMul,Int.reduceAdd,Int.reduceSub,Int.reduceMul,Int.reduceNeg,Int.reduceLE,Int.reduceLT,Int.reduceEq,Int.reduceToNat]
  (try simp only [ex,reduceIte,reduceCtorEq,Nat.reduceEqDiff,Nat.reduceLT,Nat.reduceLeDiff,Nat.reduceAdd,Nat.reduceSub,Nat.reduceMul,Int.reduceAdd,Int.reduceSub,Int.reduceMul,Int.reduceNeg,Int.reduceLE,Int.reduceLT,Int.reduceEq,Int.reduceToNat]) <;> repeat ((with_reducible refine Req.intro ?_ ?_); (first | omega | (simp <;> omega)); try simp only [ex,reduceIte,reduceCtorEq,Nat.reduceEqDiff,Nat.reduceLT,Nat.reduceLeDiff,Nat.reduceAdd,Nat.reduceSub,Nat.reduceMul,Int.reduceAdd,Int.reduceSub,Int.reduceMul,Int.reduceNeg,Int.reduceLE,Int.reduceLT,Int.reduceEq,Int.reduceToNat])
  refine CallH.any (idxM_spec _ ls h n hl hln) ?_
  intro v h' m hx
  have y := hx.1.choose_spec
  generalize hx.1.choose = i at y
  have y1 := y.1
  have y2 := y.2
  have y3 := hx.2.1
  have y4 := hx.2.2
  clear hx y
  (try simp only [y1, y2, y3, ex,reduceIte,reduceCtorEq,Nat.reduceEqDiff,Nat.reduceLT,Nat.reduceLeDiff,Nat.reduceAdd,Nat.reduceSub,Nat.reduceMul,Int.reduceAdd,Int.reduceSub,Int.reduceMul,Int.reduceNeg,Int.reduceLE,Int.reduceLT,Int.reduceEq,Int.reduceToNat]) <;> repeat ((with_reducible refine Req.intro ?_ ?_); (first | omega | (simp <;> omega)); try simp only [y1, y2, y3, ex,reduceIte,reduceCtorEq,Nat.reduceEqDiff,Nat.reduceLT,Nat.reduceLeDiff,Nat.reduceAdd,Nat.reduceSub,Nat.reduceMul,Int.reduceAdd,Int.reduceSub,Int.reduceMul,Int.reduceNeg,Int.reduceLE,Int.reduceLT,Int.reduceEq,Int.reduceToNat])
  omega
theorem marked1_spec (s : Sx) (hs : s.length ≤ 3000000) (hs : s.length ≤ 9000) : Run tab 23 0 [.str s] [] 0 (fun v _ _ => v = .bool (markedR s)) := by
  have hnl := lnG_len s []
  have hln : ∀ x ∈ lns s, x.length ≤ 1000000 := fun x hx => by
    have := lnG_el s [] x hx
    simp at this; omega
  refine enter (F := f23) rfl rfl ?_
  simp only [f23, ex,reduceIte,reduceCtorEq,Nat.reduceEqDiff,Nat.reduceLT,Nat.reduceLeDiff,Nat.reduceAdd,Nat.reduceSub,Nat.reduceMul,Int.reduceAdd,Int.reduceSub,Int.reduceMul,Int.reduceNeg,Int.reduceLE,Int.reduceLT,Int.reduceEq,Int.reduceToNat]
  (try simp only [ex,reduceIte,reduceCtorEq,Nat.reduceEqDiff,Nat.reduceLT,Nat.reduceLeDiff,Nat.reduceAdd,Nat.reduceSub,Nat.reduceMul,Int.reduceAdd,Int.reduceSub,Int.reduceMul,Int.reduceNeg,Int.reduceLE,Int.reduceLT,Int.reduceEq,Int.reduceToNat]) <;> repeat ((with_reducible refine Req.intro ?_ ?_); (first | omega | (simp <;> omega)); try simp only [ex,reduceIte,reduceCtorEq,Nat.reduceEqDiff,Nat.reduceLT,Nat.reduceLeDiff,Nat.reduceAdd,Nat.reduceSub,Nat.reduceMul,Int.reduceAdd,Int.reduceSub,Int.reduceMul,Int.reduceNeg,Int.reduceLE,Int.reduceLT,Int.reduceEq,Int.reduceToNat])
  refine CallA.eq rfl (split_spec s (by omega)) rfl ?_
  (try simp only [ex,reduceIte,reduceCtorEq,Nat.reduceEqDiff,Nat.reduceLT,Nat.reduceLeDiff,Nat.reduceAdd,Nat.reduceSub,Nat.reduceMul,Int.reduceAdd,Int.reduceSub,Int.reduceMul,Int.reduceNeg,Int.reduceLE,Int.reduceLT,Int.reduceEq,Int.reduceToNat]) <;> repeat ((with_reducible refine Req.intro ?_ ?_); (first | omega | (simp <;> omega)); try simp only [ex,reduceIte,reduceCtorEq,Nat.reduceEqDiff,Nat.reduceLT,Nat.reduceLeDiff,Nat.reduceAdd,Nat.reduceSub,Nat.reduceMul,Int.reduceAdd,Int.reduceSub,Int.reduceMul,Int.reduceNeg,Int.reduceLE,Int.reduceLT,Int.reduceEq,Int.reduceToNat])
  refine CallH.any (cfM_spec _ (lns s) [] 0 (by show (lnG [] s).length ≤ 10000; omega) hln) ?_
  intro v h' m hx
  have y1 := hx.1
  have y3 := hx.2.1
  clear hx
  (try simp only [y1, y3, ex,reduceIte,reduceCtorEq,Nat.reduceEqDiff,Nat.reduceLT,Nat.reduceLeDiff,Nat.reduceAdd,Nat.reduceSub,Nat.reduceMul,Int.reduceAdd,Int.reduceSub,Int.reduceMul,Int.reduceNeg,Int.reduceLE,Int.reduceLT,Int.reduceEq,Int.reduceToNat]) <;> repeat ((with_reducible refine Req.intro ?_ ?_); (first | omega | (simp <;> omega)); try simp only [y1, y3, ex,reduceIte,reduceCtorEq,Nat.reduceEqDiff,Nat.reduceLT,Nat.reduceLeDiff,Nat.reduceAdd,Nat.reduceSub,Nat.reduceMul,Int.reduceAdd,Int.reduceSub,Int.reduceMul,Int.reduceNeg,Int.reduceLE,Int.reduceLT,Int.reduceEq,Int.reduceToNat])
  rfl
theorem marked2_spec (s : Sx) (hs : s.length ≤ 9000) : Run tab 24 0 [.str s] [] 0 (fun v _ _ => v = .bool (markedR s)) := by
  have hnl := lnG_len s []
  have hln : ∀ x ∈ lns s, x.length ≤ 1000000 := fun x hx => by
    have := lnG_el s [] x hx
    simp at this; omega
  refine enter (F := f24) rfl rfl ?_
  simp only [f24, ex,reduceIte,reduceCtorEq,Nat.reduceEqDiff,Nat.reduceLT,Nat.reduceLeDiff,Nat.reduceAdd,Nat.reduceSub,Nat.reduceMul,Int.reduceAdd,Int.reduceSub,Int.reduceMul,Int.reduceNeg,Int.reduceLE,Int.reduceLT,Int.reduceEq,Int.reduceToNat]
  (try simp only [ex,reduceIte,reduceCtorEq,Nat.reduceEqDiff,Nat.reduceLT,Nat.reduceLeDiff,Nat.reduceAdd,Nat.reduceSub,Nat.reduceMul,Int.reduceAdd,Int.reduceSub,Int.reduceMul,Int.reduceNeg,Int.reduceLE,Int.reduceLT,Int.reduceEq,Int.reduceToNat]) <;> repeat ((with_reducible refine Req.intro ?_ ?_); (first | omega | (simp <;> omega)); try simp only [ex,reduceIte,reduceCtorEq,Nat.reduceEqDiff,Nat.reduceLT,Nat.reduceLeDiff,Nat.reduceAdd,Nat.reduceSub,Nat.reduceMul,Int.reduceAdd,Int.reduceSub,Int.reduceMul,Int.reduceNeg,Int.reduceLE,Int.reduceLT,Int.reduceEq,Int.reduceToNat])
  refine CallA.eq rfl (rsplit_spec s (by omega)) rfl ?_
  unfold markedR
  generalize hls : lns s = ls at *
  have hnl : ls.length ≤ 9001 := by rw [← hls]; show (lnG [] s).length ≤ 9001; omega
  clear hls
  (try simp only [ex,reduceIte,reduceCtorEq,Nat.reduceEqDiff,Nat.reduceLT,Nat.reduceLeDiff,Nat.reduceAdd,Nat.reduceSub,Nat.reduceMul,Int.reduceAdd,Int.reduceSub,Int.reduceMul,Int.reduceNeg,Int.reduceLE,Int.reduceLT,Int.reduceEq,Int.reduceToNat]) <;> repeat ((with_reducible refine Req.intro ?_ ?_); (first | omega | (simp <;> omega)); try simp only [ex,reduceIte,reduceCtorEq,Nat.reduceEqDiff,Nat.reduceLT,Nat.reduceLeDiff,Nat.reduceAdd,Nat.reduceSub,Nat.reduceMul,Int.reduceAdd,Int.reduceSub,Int.reduceMul,Int.reduceNeg,Int.reduceLE,Int.reduceLT,Int.reduceEq,Int.reduceToNat])
  refine loopI fun L hL => ?_
  (try simp only [ex,reduceIte,reduceCtorEq,Nat.reduceEqDiff,Nat.reduceLT,Nat.reduceLeDiff,Nat.reduceAdd,Nat.reduceSub,Nat.reduceMul,Int.reduceAdd,Int.reduceSub,Int.reduceMul,Int.reduceNeg,Int.reduceLE,Int.reduceLT,Int.reduceEq,Int.reduceToNat]) <;> repeat ((with_reducible refine Req.intro ?_ ?_); (first | omega | (simp <;> omega)); try simp only [ex,reduceIte,reduceCtorEq,Nat.reduceEqDiff,Nat.reduceLT,Nat.reduceLeDiff,Nat.reduceAdd,Nat.reduceSub,Nat.reduceMul,Int.reduceAdd,Int.reduceSub,Int.reduceMul,Int.reduceNeg,Int.reduceLE,Int.reduceLT,Int.reduceEq,Int.reduceToNat])
  have key : ∀ (m i : Nat), i + m = ls.length → (ls.take i).any mkB = false → L (L24_1 (.sl true 1 (ls.map .str)) (.int .i64 i) [] 0) := by
    intro m
    induction m with
    | zero =>
      intro i hi ha
      have k1 : decide ((i : Int) < (ls.length : Int)) = false := by simp; omega
      rw [List.take_of_length_le (by omega)] at ha
      apply hL
      simp only [L24_1, l24_1, ex,reduceIte,reduceCtorEq,Nat.reduceEqDiff,Nat.reduceLT,Nat.reduceLeDiff,Nat.reduceAdd,Nat.reduceSub,Nat.reduceMul,Int.reduceAdd,Int.reduceSub,Int.reduceMul,Int.reduceNeg,Int.reduceLE,Int.reduceLT,Int.reduceEq,Int.reduceToNat]
      (try simp only [k1, ex,reduceIte,reduceCtorEq,Nat.reduceEqDiff,Nat.reduceLT,Nat.reduceLeDiff,Nat.reduceAdd,Nat.reduceSub,Nat.reduceMul,Int.reduceAdd,Int.reduceSub,Int.reduceMul,Int.reduceNeg,Int.reduceLE,Int.reduceLT,Int.reduceEq,Int.reduceToNat]) <;> repeat ((with_reducible refine Req.intro ?_ ?_); (first | omega | (simp <;> omega)); try simp only [k1, ex,reduceIte,reduceCtorEq,Nat.reduceEqDiff,Nat.reduceLT,Nat.reduceLeDiff,Nat.reduceAdd,Nat.reduceSub,Nat.reduceMul,Int.reduceAdd,Int.reduceSub,Int.reduceMul,Int.reduceNeg,Int.reduceLE,Int.reduceLT,Int.reduceEq,Int.reduceToNat])
      rw [ha]
    | succ m ih =>
      intro i hi ha
      have k1 : decide ((i : Int) < (ls.length : Int)) = true := by simp; omega
      have g1 : ls[i]? = some (ls[i]'(by omega)) := List.getElem?_eq_getElem _
      have ht : ls.take (i + 1) = ls.take i ++ [ls[i]'(by omega)] := by rw [List.take_add_one, g1]; rfl
      have hm : ls[i]'(by omega) ∈ ls := List.getElem_mem _
      generalize ls[i]'(by omega) = l at *
      have ll := hln l hm
      have tk := rmark_spec l ll
      cases e1 : mkB l with
      | true =>
        have ha2 : ls.any mkB = true := List.any_eq_true.2 ⟨l, hm, e1⟩
        unfold mkB at e1
        have e2 : decide (markK l = 0) = false := by simpa using e1
        clear e1 ih
        generalize markK l = mk at *
        apply hL
        simp only [L24_1, l24_1, ex,reduceIte,reduceCtorEq,Nat.reduceEqDiff,Nat.reduceLT,Nat.reduceLeDiff,Nat.reduceAdd,Nat.reduceSub,Nat.reduceMul,Int.reduceAdd,Int.reduceSub,Int.reduceMul,Int.reduceNeg,Int.reduceLE,Int.reduceLT,Int.reduceEq,Int.reduceToNat]
        (try simp only [k1, g1, ex,reduceIte,reduceCtorEq,Nat.reduceEqDiff,Nat.reduceLT,Nat.reduceLeDiff,Nat.reduceAdd,Nat.reduceSub,Nat.reduceMul,Int.reduceAdd,Int.reduceSub,Int.reduceMul,Int.reduceNeg,Int.reduceLE,Int.reduceLT,Int.reduceEq,Int.reduceToNat]) <;> repeat ((with_reducible refine Req.intro ?_ ?_); (first | omega | (simp <;> omega)); try simp only [k1, g1, ex,reduceIte,reduceCtorEq,Nat.reduceEqDiff,Nat.reduceLT,Nat.reduceLeDiff,Nat.reduceAdd,Nat.reduceSub,Nat.reduceMul,Int.reduceAdd,Int.reduceSub,Int.reduceMul,Int.reduceNeg,Int.reduceLE,Int.reduceLT,Int.reduceEq,Int.reduceToNat])
        refine CallA.eq rfl tk rfl ?_
        (try simp only [e2, ex,reduceIte,reduceCtorEq,Nat.reduceEqDiff,Nat.reduceLT,Nat.reduceLeDiff,Nat.reduceAdd,Nat.reduceSub,Nat.reduceMul,Int.reduceAdd,Int.reduceSub,Int.reduceMul,Int.reduceNeg,Int.reduceLE,Int.reduceLT,Int.reduceEq,Int.reduceToNat]) <;> repeat ((with_reducible refine Req.intro ?_ ?_); (first | omega | (simp <;> omega)); try simp only [e2, ex,reduceIte,reduceCtorEq,Nat.reduceEqDiff,Nat.reduceLT,Nat.reduceLeDiff,Nat.reduceAdd,Nat.reduceSub,Nat.reduceMul,Int.reduceAdd,Int.reduceSub,Int.reduceMul,Int.reduceNeg,Int.reduceLE,Int.reduceLT,Int.reduceEq,Int.reduceToNat])
        rw [ha2]
      | false =>
        have h9 := ih (i + 1) (by omega) (by rw [ht, List.any_append, ha]; simp [e1])
        unfold mkB at e1
        have e2 : decide (markK l = 0) = true := by simpa using e1
        clear e1 ih
        generalize markK l = mk at *
        apply hL
        simp only [L24_1, l24_1, ex,reduceIte,reduceCtorEq,Nat.reduceEqDiff,Nat.reduceLT,Nat.reduceLeDiff,Nat.reduceAdd,Nat.reduceSub,Nat.reduceMul,Int.reduceAdd,Int.reduceSub,Int.reduceMul,Int.reduceNeg,Int.reduceLE,Int.reduceLT,Int.reduceEq,Int.reduceToNat]
        (try simp only [k1, g1, ex,reduceIte,reduceCtorEq,Nat.reduceEqDiff,Nat.reduceLT,Nat.reduceLeDiff,Nat.reduceAdd,Nat.reduceSub,Nat.reduceMul,Int.reduceAdd,Int.reduceSub,Int.reduceMul,Int.reduceNeg,Int.reduceLE,Int.reduceLT,Int.reduceEq,Int.reduceToNat]) <;> repeat ((with_reducible refine Req.intro ?_ ?_); (first | omega | (simp <;> omega)); try simp only [k1, g1, ex,reduceIte,reduceCtorEq,Nat.reduceEqDiff,Nat.reduceLT,Nat.reduceLeDiff,Nat.reduceAdd,Nat.reduceSub,Nat.reduceMul,Int.reduceAdd,Int.reduceSub,Int.reduceMul,Int.reduceNeg,Int.reduceLE,Int.reduceLT,Int.reduceEq,Int.reduceToNat])
        refine CallA.eq rfl tk rfl ?_
        (try simp only [e2, ex,reduceIte,reduceCtorEq,Nat.reduceEqDiff,Nat.reduceLT,Nat.reduceLeDiff,Nat.reduceAdd,Nat.reduceSub,Nat.reduceMul,Int.reduceAdd,Int.reduceSub,Int.reduceMul,Int.reduceNeg,Int.reduceLE,Int.reduceLT,Int.reduceEq,Int.reduceToNat]) <;> repeat ((with_reducible refine Req.intro ?_ ?_); (first | omega | (simp <;> omega)); try simp only [e2, ex,reduceIte,reduceCtorEq,Nat.reduceEqDiff,Nat.reduceLT,Nat.reduceLeDiff,Nat.reduceAdd,Nat.reduceSub,Nat.reduceMul,Int.reduceAdd,Int.reduceSub,Int.reduceMul,Int.reduceNeg,Int.reduceLE,Int.reduceLT,Int.reduceEq,Int.reduceToNat])
        exact h9
  exact key ls.length 0 (Nat.zero_add _) rfl
theorem parL_sz : ∀ (ls : List Sx) (rs : List Rg) (a : Int) (p : Rg) (i : Nat) (q : List Rg), SzL i rs → Sz i p → parL ls rs a p = some q → SzL (i + ls.length) q
  | [], rs, a, p, i, q, h1, h2, h => by
    unfold parL at h
    split at h
    · injection h with h; subst h; exact h1
    · cases h
  | l :: ls, rs, a, p, i, q, h1, h2, h => by
    unfold parL at h
    cases e : stP l rs a p with
    | none => rw [e] at h; cases h
    | some w =>
      rw [e] at h
      have z := stP_sz e h1 h2
      have := parL_sz ls _ _ _ (i + 1) q z.1 z.2 h
      rw [List.length_cons, show i + (ls.length + 1) = i + 1 + ls.length by omega]
      exact this
theorem law_ThreeReads (s : Sx) (hl : s.length ≤ 140737488351232) : Run tab 5 0 [.str s] [] 0 (fun r _ _ => r = .bool true) := by
  refine enter (F := f5) rfl rfl ?_
  simp only [f5, ex,reduceIte,reduceCtorEq,Nat.reduceEqDiff,Nat.reduceLT,Nat.reduceLeDiff,Nat.reduceAdd,Nat.reduceSub,Nat.reduceMul,Int.reduceAdd,Int.reduceSub,Int.reduceMul,Int.reduceNeg,Int.reduceLE,Int.reduceLT,Int.reduceEq,Int.reduceToNat]
  rcases Nat.lt_or_ge 3000 s.length with c | c
  · have d1 : decide ((s.length : Int) > 3000) = true := by simp; omega
    (try simp only [d1, ex,reduceIte,reduceCtorEq,Nat.reduceEqDiff,Nat.reduceLT,Nat.reduceLeDiff,Nat.reduceAdd,Nat.reduceSub,Nat.reduceMul,Int.reduceAdd,Int.reduceSub,Int.reduceMul,Int.reduceNeg,Int.reduceLE,Int.reduceLT,Int.reduceEq,Int.reduceToNat]) <;> repeat ((with_reducible refine Req.intro ?_ ?_); (first | omega | (simp <;> omega)); try simp only [d1, ex,reduceIte,reduceCtorEq,Nat.reduceEqDiff,Nat.reduceLT,Nat.reduceLeDiff,Nat.reduceAdd,Nat.reduceSub,Nat.reduceMul,Int.reduceAdd,Int.reduceSub,Int.reduceMul,Int.reduceNeg,Int.reduceLE,Int.reduceLT,Int.reduceEq,Int.reduceToNat])
    refine CallA.eq rfl lives_spec rfl ?_
    (try simp only [ex,reduceIte,reduceCtorEq,Nat.reduceEqDiff,Nat.reduceLT,Nat.reduceLeDiff,Nat.reduceAdd,Nat.reduceSub,Nat.reduceMul,Int.reduceAdd,Int.reduceSub,Int.reduceMul,Int.reduceNeg,Int.reduceLE,Int.reduceLT,Int.reduceEq,Int.reduceToNat]) <;> repeat ((with_reducible refine Req.intro ?_ ?_); (first | omega | (simp <;> omega)); try simp only [ex,reduceIte,reduceCtorEq,Nat.reduceEqDiff,Nat.reduceLT,Nat.reduceLeDiff,Nat.reduceAdd,Nat.reduceSub,Nat.reduceMul,Int.reduceAdd,Int.reduceSub,Int.reduceMul,Int.reduceNeg,Int.reduceLE,Int.reduceLT,Int.reduceEq,Int.reduceToNat])
  · have d1 : decide ((s.length : Int) > 3000) = false := by simp; omega
    have hnl : (lns s).length ≤ 3001 := by
      have := lnG_len s []
      show (lnG [] s).length ≤ 3001
      omega
    (try simp only [d1, ex,reduceIte,reduceCtorEq,Nat.reduceEqDiff,Nat.reduceLT,Nat.reduceLeDiff,Nat.reduceAdd,Nat.reduceSub,Nat.reduceMul,Int.reduceAdd,Int.reduceSub,Int.reduceMul,Int.reduceNeg,Int.reduceLE,Int.reduceLT,Int.reduceEq,Int.reduceToNat]) <;> repeat ((with_reducible refine Req.intro ?_ ?_); (first | omega | (simp <;> omega)); try simp only [d1, ex,reduceIte,reduceCtorEq,Nat.reduceEqDiff,Nat.reduceLT,Nat.reduceLeDiff,Nat.reduceAdd,Nat.reduceSub,Nat.reduceMul,Int.reduceAdd,Int.reduceSub,Int.reduceMul,Int.reduceNeg,Int.reduceLE,Int.reduceLT,Int.reduceEq,Int.reduceToNat])
    refine CallA.eq rfl (parse1_spec s (by omega)) ?_ ?_
    · cases parR s <;> rfl
    have dm : decide (markedR s = markedR s) = true := decide_eq_true rfl
    cases hp : parR s with
    | none =>
      have d2 : decide ((2 : Int) = 2) = true := rfl
      simp only [outP]
      (try simp only [ex,reduceIte,reduceCtorEq,Nat.reduceEqDiff,Nat.reduceLT,Nat.reduceLeDiff,Nat.reduceAdd,Nat.reduceSub,Nat.reduceMul,Int.reduceAdd,Int.reduceSub,Int.reduceMul,Int.reduceNeg,Int.reduceLE,Int.reduceLT,Int.reduceEq,Int.reduceToNat]) <;> repeat ((with_reducible refine Req.intro ?_ ?_); (first | omega | (simp <;> omega)); try simp only [ex,reduceIte,reduceCtorEq,Nat.reduceEqDiff,Nat.reduceLT,Nat.reduceLeDiff,Nat.reduceAdd,Nat.reduceSub,Nat.reduceMul,Int.reduceAdd,Int.reduceSub,Int.reduceMul,Int.reduceNeg,Int.reduceLE,Int.reduceLT,Int.reduceEq,Int.reduceToNat])
      refine CallA.eq rfl (parse2_spec s (by omega)) ?_ ?_
      · cases parR s <;> rfl
      rw [hp]
      simp only [outP]
      (try simp only [ex,reduceIte,reduceCtorEq,Nat.reduceEqDiff,Nat.reduceLT,Nat.reduceLeDiff,Nat.reduceAdd,Nat.reduceSub,Nat.reduceMul,Int.reduceAdd,Int.reduceSub,Int.reduceMul,Int.reduceNeg,Int.reduceLE,Int.reduceLT,Int.reduceEq,Int.reduceToNat]) <;> repeat ((with_reducible refine Req.intro ?_ ?_); (first | omega | (simp <;> omega)); try simp only [ex,reduceIte,reduceCtorEq,Nat.reduceEqDiff,Nat.reduceLT,Nat.reduceLeDiff,Nat.reduceAdd,Nat.reduceSub,Nat.reduceMul,Int.reduceAdd,Int.reduceSub,Int.reduceMul,Int.reduceNeg,Int.reduceLE,Int.reduceLT,Int.reduceEq,Int.reduceToNat])
      refine CallA.eq rfl lives_spec rfl ?_
      (try simp only [ex,reduceIte,reduceCtorEq,Nat.reduceEqDiff,Nat.reduceLT,Nat.reduceLeDiff,Nat.reduceAdd,Nat.reduceSub,Nat.reduceMul,Int.reduceAdd,Int.reduceSub,Int.reduceMul,Int.reduceNeg,Int.reduceLE,Int.reduceLT,Int.reduceEq,Int.reduceToNat]) <;> repeat ((with_reducible refine Req.intro ?_ ?_); (first | omega | (simp <;> omega)); try simp only [ex,reduceIte,reduceCtorEq,Nat.reduceEqDiff,Nat.reduceLT,Nat.reduceLeDiff,Nat.reduceAdd,Nat.reduceSub,Nat.reduceMul,Int.reduceAdd,Int.reduceSub,Int.reduceMul,Int.reduceNeg,Int.reduceLE,Int.reduceLT,Int.reduceEq,Int.reduceToNat])
      refine CallA.eq rfl (sameR_self _ _ [] ⟨by simp, by simp⟩) rfl ?_
      (try simp only [d2, ex,reduceIte,reduceCtorEq,Nat.reduceEqDiff,Nat.reduceLT,Nat.reduceLeDiff,Nat.reduceAdd,Nat.reduceSub,Nat.reduceMul,Int.reduceAdd,Int.reduceSub,Int.reduceMul,Int.reduceNeg,Int.reduceLE,Int.reduceLT,Int.reduceEq,Int.reduceToNat]) <;> repeat ((with_reducible refine Req.intro ?_ ?_); (first | omega | (simp <;> omega)); try simp only [d2, ex,reduceIte,reduceCtorEq,Nat.reduceEqDiff,Nat.reduceLT,Nat.reduceLeDiff,Nat.reduceAdd,Nat.reduceSub,Nat.reduceMul,Int.reduceAdd,Int.reduceSub,Int.reduceMul,Int.reduceNeg,Int.reduceLE,Int.reduceLT,Int.reduceEq,Int.reduceToNat])
      refine CallA.eq rfl (marked1_spec s (by omega) (by omega)) rfl ?_
      (try simp only [ex,reduceIte,reduceCtorEq,Nat.reduceEqDiff,Nat.reduceLT,Nat.reduceLeDiff,Nat.reduceAdd,Nat.reduceSub,Nat.reduceMul,Int.reduceAdd,Int.reduceSub,Int.reduceMul,Int.reduceNeg,Int.reduceLE,Int.reduceLT,Int.reduceEq,Int.reduceToNat]) <;> repeat ((with_reducible refine Req.intro ?_ ?_); (first | omega | (simp <;> omega)); try simp only [ex,reduceIte,reduceCtorEq,Nat.reduceEqDiff,Nat.reduceLT,Nat.reduceLeDiff,Nat.reduceAdd,Nat.reduceSub,Nat.reduceMul,Int.reduceAdd,Int.reduceSub,Int.reduceMul,Int.reduceNeg,Int.reduceLE,Int.reduceLT,Int.reduceEq,Int.reduceToNat])
      refine CallA.eq rfl (marked2_spec s (by omega)) rfl ?_
      (try simp only [dm, ex,reduceIte,reduceCtorEq,Nat.reduceEqDiff,Nat.reduceLT,Nat.reduceLeDiff,Nat.reduceAdd,Nat.reduceSub,Nat.reduceMul,Int.reduceAdd,Int.reduceSub,Int.reduceMul,Int.reduceNeg,Int.reduceLE,Int.reduceLT,Int.reduceEq,Int.reduceToNat]) <;> repeat ((with_reducible refine Req.intro ?_ ?_); (first | omega | (simp <;> omega)); try simp only [dm, ex,reduceIte,reduceCtorEq,Nat.reduceEqDiff,Nat.reduceLT,Nat.reduceLeDiff,Nat.reduceAdd,Nat.reduceSub,Nat.reduceMul,Int.reduceAdd,Int.reduceSub,Int.reduceMul,Int.reduceNeg,Int.reduceLE,Int.reduceLT,Int.reduceEq,Int.reduceToNat])
    | some rs =>
      have d2 : decide ((0 : Int) = 0) = true := rfl
      have hok : OkR rs := (parL_sz (lns s) [] 0 p0 0 rs ⟨by simp, by simp⟩ (by simp [Sz, p0]) hp).ok (by omega)
      simp only [outP]
      (try simp only [ex,reduceIte,reduceCtorEq,Nat.reduceEqDiff,Nat.reduceLT,Nat.reduceLeDiff,Nat.reduceAdd,Nat.reduceSub,Nat.reduceMul,Int.reduceAdd,Int.reduceSub,Int.reduceMul,Int.reduceNeg,Int.reduceLE,Int.reduceLT,Int.reduceEq,Int.reduceToNat]) <;> repeat ((with_reducible refine Req.intro ?_ ?_); (first | omega | (simp <;> omega)); try simp only [ex,reduceIte,reduceCtorEq,Nat.reduceEqDiff,Nat.reduceLT,Nat.reduceLeDiff,Nat.reduceAdd,Nat.reduceSub,Nat.reduceMul,Int.reduceAdd,Int.reduceSub,Int.reduceMul,Int.reduceNeg,Int.reduceLE,Int.reduceLT,Int.reduceEq,Int.reduceToNat])
      refine CallA.eq rfl (parse2_spec s (by omega)) ?_ ?_
      · cases parR s <;> rfl
      rw [hp]
      simp only [outP]
      (try simp only [ex,reduceIte,reduceCtorEq,Nat.reduceEqDiff,Nat.reduceLT,Nat.reduceLeDiff,Nat.reduceAdd,Nat.reduceSub,Nat.reduceMul,Int.reduceAdd,Int.reduceSub,Int.reduceMul,Int.reduceNeg,Int.reduceLE,Int.reduceLT,Int.reduceEq,Int.reduceToNat]) <;> repeat ((with_reducible refine Req.intro ?_ ?_); (first | omega | (simp <;> omega)); try simp only [ex,reduceIte,reduceCtorEq,Nat.reduceEqDiff,Nat.reduceLT,Nat.reduceLeDiff,Nat.reduceAdd,Nat.reduceSub,Nat.reduceMul,Int.reduceAdd,Int.reduceSub,Int.reduceMul,Int.reduceNeg,Int.reduceLE,Int.reduceLT,Int.reduceEq,Int.reduceToNat])
      refine CallA.eq rfl lives_spec rfl ?_
      (try simp only [ex,reduceIte,reduceCtorEq,Nat.reduceEqDiff,Nat.reduceLT,Nat.reduceLeDiff,Nat.reduceAdd,Nat.reduceSub,Nat.reduceMul,Int.reduceAdd,Int.reduceSub,Int.reduceMul,Int.reduceNeg,Int.reduceLE,Int.reduceLT,Int.reduceEq,Int.reduceToNat]) <;> repeat ((with_reducible refine Req.intro ?_ ?_); (first | omega | (simp <;> omega)); try simp only [ex,reduceIte,reduceCtorEq,Nat.reduceEqDiff,Nat.reduceLT,Nat.reduceLeDiff,Nat.reduceAdd,Nat.reduceSub,Nat.reduceMul,Int.reduceAdd,Int.reduceSub,Int.reduceMul,Int.reduceNeg,Int.reduceLE,Int.reduceLT,Int.reduceEq,Int.reduceToNat])
      refine CallA.eq rfl (sameR_self _ _ rs hok) rfl ?_
      (try simp only [d2, ex,reduceIte,reduceCtorEq,Nat.reduceEqDiff,Nat.reduceLT,Nat.reduceLeDiff,Nat.reduceAdd,Nat.reduceSub,Nat.reduceMul,Int.reduceAdd,Int.reduceSub,Int.reduceMul,Int.reduceNeg,Int.reduceLE,Int.reduceLT,Int.reduceEq,Int.reduceToNat]) <;> repeat ((with_reducible refine Req.intro ?_ ?_); (first | omega | (simp <;> omega)); try simp only [d2, ex,reduceIte,reduceCtorEq,Nat.reduceEqDiff,Nat.reduceLT,Nat.reduceLeDiff,Nat.reduceAdd,Nat.reduceSub,Nat.reduceMul,Int.reduceAdd,Int.reduceSub,Int.reduceMul,Int.reduceNeg,Int.reduceLE,Int.reduceLT,Int.reduceEq,Int.reduceToNat])
      refine CallA.eq rfl (marked1_spec s (by omega) (by omega)) rfl ?_
      (try simp only [ex,reduceIte,reduceCtorEq,Nat.reduceEqDiff,Nat.reduceLT,Nat.reduceLeDiff,Nat.reduceAdd,Nat.reduceSub,Nat.reduceMul,Int.reduceAdd,Int.reduceSub,Int.reduceMul,Int.reduceNeg,Int.reduceLE,Int.reduceLT,Int.reduceEq,Int.reduceToNat]) <;> repeat ((with_reducible refine Req.intro ?_ ?_); (first | omega | (simp <;> omega)); try simp only [ex,reduceIte,reduceCtorEq,Nat.reduceEqDiff,Nat.reduceLT,Nat.reduceLeDiff,Nat.reduceAdd,Nat.reduceSub,Nat.reduceMul,Int.reduceAdd,Int.reduceSub,Int.reduceMul,Int.reduceNeg,Int.reduceLE,Int.reduceLT,Int.reduceEq,Int.reduceToNat])
      refine CallA.eq rfl (marked2_spec s (by omega)) rfl ?_
      (try simp only [dm, ex,reduceIte,reduceCtorEq,Nat.reduceEqDiff,Nat.reduceLT,Nat.reduceLeDiff,Nat.reduceAdd,Nat.reduceSub,Nat.reduceMul,Int.reduceAdd,Int.reduceSub,Int.reduceMul,Int.reduceNeg,Int.reduceLE,Int.reduceLT,Int.reduceEq,Int.reduceToNat]) <;> repeat ((with_reducible refine Req.intro ?_ ?_); (first | omega | (simp <;> omega)); try simp only [dm, ex,reduceIte,reduceCtorEq,Nat.reduceEqDiff,Nat.reduceLT,Nat.reduceLeDiff,Nat.reduceAdd,Nat.reduceSub,Nat.reduceMul,Int.reduceAdd,Int.reduceSub,Int.reduceMul,Int.reduceNeg,Int.reduceLE,Int.reduceLT,Int.reduceEq,Int.reduceToNat])
end Go.Proofs.Ytnodepfoahmcmaa.E.Hs
