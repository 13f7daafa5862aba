/- What the functions compute, and the law ThreeTurned in plain lists: part 2. Conditions: none. -/
import Derived.Test.YtnodepfoahmcmaaHThreeTurned1
/- Chapter 12: the law ThreeTurned. Conditions: none. -/
namespace Go.Proofs.Ytnodepfoahmcmaa.E.Hs
set_option linter.unusedVariables false
set_option linter.unusedSimpArgs false
set_option maxHeartbeats 20000000
set_option maxRecDepth 100000

theorem law_ThreeTurned (C A B : List Sx) (hc : C.length ≤ 17592186044416) (ha : A.length ≤ 17592186044416) (hb : B.length ≤ 17592186044416) :
    Run tab 6 0 [.sl false 1 (C.map .str), .sl false 1 (A.map .str), .sl false 1 (B.map .str)] [] 0 (fun r _ _ => r = .bool true) := by
  cases s1 : small C with
  | false =>
    refine enter (F := f6) rfl rfl ?_
    simp only [f6, ex,reduceIte,reduceCtorEq,Nat.reduceEqDiff,Nat.reduceLT,Nat.reduceLeDiff,Nat.reduceAdd,Nat.reduceSub,Nat.reduceMul,Int.reduceAdd,Int.reduceSub,Int.reduceMul,Int.reduceNeg,Int.reduceLE,Int.reduceLT,Int.reduceEq,Int.reduceToNat]
    (try simp only [ex,reduceIte,reduceCtorEq,Nat.reduceEqDiff,Nat.reduceLT,Nat.reduceLeDiff,Nat.reduceAdd,Nat.reduceSub,Nat.reduceMul,Int.reduceAdd,Int.reduceSub,Int.reduceMul,Int.reduceNeg,Int.reduceLE,Int.reduceLT,Int.reduceEq,Int.reduceToNat]) <;> repeat ((with_reducible refine Req.intro ?_ ?_); (first | omega | (simp <;> omega)); try simp only [ex,reduceIte,reduceCtorEq,Nat.reduceEqDiff,Nat.reduceLT,Nat.reduceLeDiff,Nat.reduceAdd,Nat.reduceSub,Nat.reduceMul,Int.reduceAdd,Int.reduceSub,Int.reduceMul,Int.reduceNeg,Int.reduceLE,Int.reduceLT,Int.reduceEq,Int.reduceToNat])
    refine CallA.eq rfl (small_spec _ C hc) rfl ?_
    (try simp only [s1, ex,reduceIte,reduceCtorEq,Nat.reduceEqDiff,Nat.reduceLT,Nat.reduceLeDiff,Nat.reduceAdd,Nat.reduceSub,Nat.reduceMul,Int.reduceAdd,Int.reduceSub,Int.reduceMul,Int.reduceNeg,Int.reduceLE,Int.reduceLT,Int.reduceEq,Int.reduceToNat]) <;> repeat ((with_reducible refine Req.intro ?_ ?_); (first | omega | (simp <;> omega)); try simp only [s1, ex,reduceIte,reduceCtorEq,Nat.reduceEqDiff,Nat.reduceLT,Nat.reduceLeDiff,Nat.reduceAdd,Nat.reduceSub,Nat.reduceMul,Int.reduceAdd,Int.reduceSub,Int.reduceMul,Int.reduceNeg,Int.reduceLE,Int.reduceLT,Int.reduceEq,Int.reduceToNat])
    refine CallA.eq rfl lives_spec rfl ?_
    (try simp only [ex,reduceIte,reduceCtorEq,Nat.reduceEqDiff,Nat.reduceLT,Nat.reduceLeDiff,Nat.reduceAdd,Nat.reduceSub,Nat.reduceMul,Int.reduceAdd,Int.reduceSub,Int.reduceMul,Int.reduceNeg,Int.reduceLE,Int.reduceLT,Int.reduceEq,Int.reduceToNat]) <;> repeat ((with_reducible refine Req.intro ?_ ?_); (first | omega | (simp <;> omega)); try simp only [ex,reduceIte,reduceCtorEq,Nat.reduceEqDiff,Nat.reduceLT,Nat.reduceLeDiff,Nat.reduceAdd,Nat.reduceSub,Nat.reduceMul,Int.reduceAdd,Int.reduceSub,Int.reduceMul,Int.reduceNeg,Int.reduceLE,Int.reduceLT,Int.reduceEq,Int.reduceToNat])
  | true =>
    cases s2 : small A with
    | false =>
      refine enter (F := f6) rfl rfl ?_
      simp only [f6, ex,reduceIte,reduceCtorEq,Nat.reduceEqDiff,Nat.reduceLT,Nat.reduceLeDiff,Nat.reduceAdd,Nat.reduceSub,Nat.reduceMul,Int.reduceAdd,Int.reduceSub,Int.reduceMul,Int.reduceNeg,Int.reduceLE,Int.reduceLT,Int.reduceEq,Int.reduceToNat]
      (try simp only [ex,reduceIte,reduceCtorEq,Nat.reduceEqDiff,Nat.reduceLT,Nat.reduceLeDiff,Nat.reduceAdd,Nat.reduceSub,Nat.reduceMul,Int.reduceAdd,Int.reduceSub,Int.reduceMul,Int.reduceNeg,Int.reduceLE,Int.reduceLT,Int.reduceEq,Int.reduceToNat]) <;> repeat ((with_reducible refine Req.intro ?_ ?_); (first | omega | (simp <;> omega)); try simp only [ex,reduceIte,reduceCtorEq,Nat.reduceEqDiff,Nat.reduceLT,Nat.reduceLeDiff,Nat.reduceAdd,Nat.reduceSub,Nat.reduceMul,Int.reduceAdd,Int.reduceSub,Int.reduceMul,Int.reduceNeg,Int.reduceLE,Int.reduceLT,Int.reduceEq,Int.reduceToNat])
      refine CallA.eq rfl (small_spec _ C hc) rfl ?_
      (try simp only [s1, ex,reduceIte,reduceCtorEq,Nat.reduceEqDiff,Nat.reduceLT,Nat.reduceLeDiff,Nat.reduceAdd,Nat.reduceSub,Nat.reduceMul,Int.reduceAdd,Int.reduceSub,Int.reduceMul,Int.reduceNeg,Int.reduceLE,Int.reduceLT,Int.reduceEq,Int.reduceToNat]) <;> repeat ((with_reducible refine Req.intro ?_ ?_); (first | omega | (simp <;> omega)); try simp only [s1, ex,reduceIte,reduceCtorEq,Nat.reduceEqDiff,Nat.reduceLT,Nat.reduceLeDiff,Nat.reduceAdd,Nat.reduceSub,Nat.reduceMul,Int.reduceAdd,Int.reduceSub,Int.reduceMul,Int.reduceNeg,Int.reduceLE,Int.reduceLT,Int.reduceEq,Int.reduceToNat])
      refine CallA.eq rfl (small_spec _ A ha) rfl ?_
      (try simp only [s2, ex,reduceIte,reduceCtorEq,Nat.reduceEqDiff,Nat.reduceLT,Nat.reduceLeDiff,Nat.reduceAdd,Nat.reduceSub,Nat.reduceMul,Int.reduceAdd,Int.reduceSub,Int.reduceMul,Int.reduceNeg,Int.reduceLE,Int.reduceLT,Int.reduceEq,Int.reduceToNat]) <;> repeat ((with_reducible refine Req.intro ?_ ?_); (first | omega | (simp <;> omega)); try simp only [s2, ex,reduceIte,reduceCtorEq,Nat.reduceEqDiff,Nat.reduceLT,Nat.reduceLeDiff,Nat.reduceAdd,Nat.reduceSub,Nat.reduceMul,Int.reduceAdd,Int.reduceSub,Int.reduceMul,Int.reduceNeg,Int.reduceLE,Int.reduceLT,Int.reduceEq,Int.reduceToNat])
      refine CallA.eq rfl lives_spec rfl ?_
      (try simp only [ex,reduceIte,reduceCtorEq,Nat.reduceEqDiff,Nat.reduceLT,Nat.reduceLeDiff,Nat.reduceAdd,Nat.reduceSub,Nat.reduceMul,Int.reduceAdd,Int.reduceSub,Int.reduceMul,Int.reduceNeg,Int.reduceLE,Int.reduceLT,Int.reduceEq,Int.reduceToNat]) <;> repeat ((with_reducible refine Req.intro ?_ ?_); (first | omega | (simp <;> omega)); try simp only [ex,reduceIte,reduceCtorEq,Nat.reduceEqDiff,Nat.reduceLT,Nat.reduceLeDiff,Nat.reduceAdd,Nat.reduceSub,Nat.reduceMul,Int.reduceAdd,Int.reduceSub,Int.reduceMul,Int.reduceNeg,Int.reduceLE,Int.reduceLT,Int.reduceEq,Int.reduceToNat])
    | true =>
      cases s3 : small B with
      | false =>
        refine enter (F := f6) rfl rfl ?_
        simp only [f6, ex,reduceIte,reduceCtorEq,Nat.reduceEqDiff,Nat.reduceLT,Nat.reduceLeDiff,Nat.reduceAdd,Nat.reduceSub,Nat.reduceMul,Int.reduceAdd,Int.reduceSub,Int.reduceMul,Int.reduceNeg,Int.reduceLE,Int.reduceLT,Int.reduceEq,Int.reduceToNat]
        (try simp only [ex,reduceIte,reduceCtorEq,Nat.reduceEqDiff,Nat.reduceLT,Nat.reduceLeDiff,Nat.reduceAdd,Nat.reduceSub,Nat.reduceMul,Int.reduceAdd,Int.reduceSub,Int.reduceMul,Int.reduceNeg,Int.reduceLE,Int.reduceLT,Int.reduceEq,Int.reduceToNat]) <;> repeat ((with_reducible refine Req.intro ?_ ?_); (first | omega | (simp <;> omega)); try simp only [ex,reduceIte,reduceCtorEq,Nat.reduceEqDiff,Nat.reduceLT,Nat.reduceLeDiff,Nat.reduceAdd,Nat.reduceSub,Nat.reduceMul,Int.reduceAdd,Int.reduceSub,Int.reduceMul,Int.reduceNeg,Int.reduceLE,Int.reduceLT,Int.reduceEq,Int.reduceToNat])
        refine CallA.eq rfl (small_spec _ C hc) rfl ?_
        (try simp only [s1, ex,reduceIte,reduceCtorEq,Nat.reduceEqDiff,Nat.reduceLT,Nat.reduceLeDiff,Nat.reduceAdd,Nat.reduceSub,Nat.reduceMul,Int.reduceAdd,Int.reduceSub,Int.reduceMul,Int.reduceNeg,Int.reduceLE,Int.reduceLT,Int.reduceEq,Int.reduceToNat]) <;> repeat ((with_reducible refine Req.intro ?_ ?_); (first | omega | (simp <;> omega)); try simp only [s1, ex,reduceIte,reduceCtorEq,Nat.reduceEqDiff,Nat.reduceLT,Nat.reduceLeDiff,Nat.reduceAdd,Nat.reduceSub,Nat.reduceMul,Int.reduceAdd,Int.reduceSub,Int.reduceMul,Int.reduceNeg,Int.reduceLE,Int.reduceLT,Int.reduceEq,Int.reduceToNat])
        refine CallA.eq rfl (small_spec _ A ha) rfl ?_
        (try simp only [s2, ex,reduceIte,reduceCtorEq,Nat.reduceEqDiff,Nat.reduceLT,Nat.reduceLeDiff,Nat.reduceAdd,Nat.reduceSub,Nat.reduceMul,Int.reduceAdd,Int.reduceSub,Int.reduceMul,Int.reduceNeg,Int.reduceLE,Int.reduceLT,Int.reduceEq,Int.reduceToNat]) <;> repeat ((with_reducible refine Req.intro ?_ ?_); (first | omega | (simp <;> omega)); try simp only [s2, ex,reduceIte,reduceCtorEq,Nat.reduceEqDiff,Nat.reduceLT,Nat.reduceLeDiff,Nat.reduceAdd,Nat.reduceSub,Nat.reduceMul,Int.reduceAdd,Int.reduceSub,Int.reduceMul,Int.reduceNeg,Int.reduceLE,Int.reduceLT,Int.reduceEq,Int.reduceToNat])
        refine CallA.eq rfl (small_spec _ B hb) rfl ?_
        (try simp only [s3, ex,reduceIte,reduceCtorEq,Nat.reduceEqDiff,Nat.reduceLT,Nat.reduceLeDiff,Nat.reduceAdd,Nat.reduceSub,Nat.reduceMul,Int.reduceAdd,Int.reduceSub,Int.reduceMul,Int.reduceNeg,Int.reduceLE,Int.reduceLT,Int.reduceEq,Int.reduceToNat]) <;> repeat ((with_reducible refine Req.intro ?_ ?_); (first | omega | (simp <;> omega)); try simp only [s3, ex,reduceIte,reduceCtorEq,Nat.reduceEqDiff,Nat.reduceLT,Nat.reduceLeDiff,Nat.reduceAdd,Nat.reduceSub,Nat.reduceMul,Int.reduceAdd,Int.reduceSub,Int.reduceMul,Int.reduceNeg,Int.reduceLE,Int.reduceLT,Int.reduceEq,Int.reduceToNat])
        refine CallA.eq rfl lives_spec rfl ?_
        (try simp only [ex,reduceIte,reduceCtorEq,Nat.reduceEqDiff,Nat.reduceLT,Nat.reduceLeDiff,Nat.reduceAdd,Nat.reduceSub,Nat.reduceMul,Int.reduceAdd,Int.reduceSub,Int.reduceMul,Int.reduceNeg,Int.reduceLE,Int.reduceLT,Int.reduceEq,Int.reduceToNat]) <;> repeat ((with_reducible refine Req.intro ?_ ?_); (first | omega | (simp <;> omega)); try simp only [ex,reduceIte,reduceCtorEq,Nat.reduceEqDiff,Nat.reduceLT,Nat.reduceLeDiff,Nat.reduceAdd,Nat.reduceSub,Nat.reduceMul,Int.reduceAdd,Int.reduceSub,Int.reduceMul,Int.reduceNeg,Int.reduceLE,Int.reduceLT,Int.reduceEq,Int.reduceToNat])
      | true =>
        have l1 := (small_len s1).1
        have l2 := (small_len s2).1
        have l3 := (small_len s3).1
        have m1 := fun o1 o2 o3 => merge1_spec o1 o2 o3 C A B (by omega) (by omega) (by omega)
        have m2 := fun o1 o2 o3 => merge1_spec o1 o2 o3 C B A (by omega) (by omega) (by omega)
        have mx := fun o1 o2 o3 => merge1_spec o1 o2 o3 C C B (by omega) (by omega) (by omega)
        have my := fun o1 o2 o3 => merge1_spec o1 o2 o3 C A C (by omega) (by omega) (by omega)
        have mz := fun o1 o2 o3 => merge1_spec o1 o2 o3 C A A (by omega) (by omega) (by omega)
        have hok := mrg_ok (C := C) (A := A) (B := B) (by omega) (by omega) (by omega)
        have kx := mrg_ok (C := C) (A := C) (B := B) (by omega) (by omega) (by omega)
        have ky := mrg_ok (C := C) (A := A) (B := C) (by omega) (by omega) (by omega)
        have kz := mrg_ok (C := C) (A := A) (B := A) (by omega) (by omega) (by omega)
        have cx := cat_x (C := C) (B := B) (by omega) (by omega)
        have cy := cat_y (C := C) (A := A) (by omega) (by omega)
        have cz := cat_z (C := C) (A := A) (by omega) (by omega)
        rw [mrg_sw] at m2
        generalize mrg C A B = rs at *
        generalize mrg C C B = rx at *
        generalize mrg C A C = ry at *
        generalize mrg C A A = rz at *
        have hl := hok.1
        have qx := fun o => clean1_spec o rx kx.1
        have qy := fun o => clean1_spec o ry ky.1
        have qz := fun o => clean1_spec o rz kz.1
        rw [cx.cl] at qx
        rw [cy.cl] at qy
        rw [cz.cl] at qz
        have px := fun o => lines1_spec o rx 0 kx
        have py := fun o => lines1_spec o ry 0 ky
        have pz := fun o => lines1_spec o rz 0 kz
        rw [cx.lines] at px
        rw [cy.lines] at py
        rw [cz.lines] at pz
        have e0 : decide ((rs.length : Int) = (rs.length : Int)) = true := decide_eq_true rfl
        have lm : (rs.map sw).length = rs.length := List.length_map _
        refine enter (F := f6) rfl rfl ?_
        simp only [f6, ex,reduceIte,reduceCtorEq,Nat.reduceEqDiff,Nat.reduceLT,Nat.reduceLeDiff,Nat.reduceAdd,Nat.reduceSub,Nat.reduceMul,Int.reduceAdd,Int.reduceSub,Int.reduceMul,Int.reduceNeg,Int.reduceLE,Int.reduceLT,Int.reduceEq,Int.reduceToNat]
        (try simp only [ex,reduceIte,reduceCtorEq,Nat.reduceEqDiff,Nat.reduceLT,Nat.reduceLeDiff,Nat.reduceAdd,Nat.reduceSub,Nat.reduceMul,Int.reduceAdd,Int.reduceSub,Int.reduceMul,Int.reduceNeg,Int.reduceLE,Int.reduceLT,Int.reduceEq,Int.reduceToNat]) <;> repeat ((with_reducible refine Req.intro ?_ ?_); (first | omega | (simp <;> omega)); try simp only [ex,reduceIte,reduceCtorEq,Nat.reduceEqDiff,Nat.reduceLT,Nat.reduceLeDiff,Nat.reduceAdd,Nat.reduceSub,Nat.reduceMul,Int.reduceAdd,Int.reduceSub,Int.reduceMul,Int.reduceNeg,Int.reduceLE,Int.reduceLT,Int.reduceEq,Int.reduceToNat])
        refine CallA.eq rfl (small_spec _ C hc) rfl ?_
        (try simp only [s1, ex,reduceIte,reduceCtorEq,Nat.reduceEqDiff,Nat.reduceLT,Nat.reduceLeDiff,Nat.reduceAdd,Nat.reduceSub,Nat.reduceMul,Int.reduceAdd,Int.reduceSub,Int.reduceMul,Int.reduceNeg,Int.reduceLE,Int.reduceLT,Int.reduceEq,Int.reduceToNat]) <;> repeat ((with_reducible refine Req.intro ?_ ?_); (first | omega | (simp <;> omega)); try simp only [s1, ex,reduceIte,reduceCtorEq,Nat.reduceEqDiff,Nat.reduceLT,Nat.reduceLeDiff,Nat.reduceAdd,Nat.reduceSub,Nat.reduceMul,Int.reduceAdd,Int.reduceSub,Int.reduceMul,Int.reduceNeg,Int.reduceLE,Int.reduceLT,Int.reduceEq,Int.reduceToNat])
        refine CallA.eq rfl (small_spec _ A ha) rfl ?_
        (try simp only [s2, ex,reduceIte,reduceCtorEq,Nat.reduceEqDiff,Nat.reduceLT,Nat.reduceLeDiff,Nat.reduceAdd,Nat.reduceSub,Nat.reduceMul,Int.reduceAdd,Int.reduceSub,Int.reduceMul,Int.reduceNeg,Int.reduceLE,Int.reduceLT,Int.reduceEq,Int.reduceToNat]) <;> repeat ((with_reducible refine Req.intro ?_ ?_); (first | omega | (simp <;> omega)); try simp only [s2, ex,reduceIte,reduceCtorEq,Nat.reduceEqDiff,Nat.reduceLT,Nat.reduceLeDiff,Nat.reduceAdd,Nat.reduceSub,Nat.reduceMul,Int.reduceAdd,Int.reduceSub,Int.reduceMul,Int.reduceNeg,Int.reduceLE,Int.reduceLT,Int.reduceEq,Int.reduceToNat])
        refine CallA.eq rfl (small_spec _ B hb) rfl ?_
        (try simp only [s3, ex,reduceIte,reduceCtorEq,Nat.reduceEqDiff,Nat.reduceLT,Nat.reduceLeDiff,Nat.reduceAdd,Nat.reduceSub,Nat.reduceMul,Int.reduceAdd,Int.reduceSub,Int.reduceMul,Int.reduceNeg,Int.reduceLE,Int.reduceLT,Int.reduceEq,Int.reduceToNat]) <;> repeat ((with_reducible refine Req.intro ?_ ?_); (first | omega | (simp <;> omega)); try simp only [s3, ex,reduceIte,reduceCtorEq,Nat.reduceEqDiff,Nat.reduceLT,Nat.reduceLeDiff,Nat.reduceAdd,Nat.reduceSub,Nat.reduceMul,Int.reduceAdd,Int.reduceSub,Int.reduceMul,Int.reduceNeg,Int.reduceLE,Int.reduceLT,Int.reduceEq,Int.reduceToNat])
        refine CallA.eq rfl (m1 _ _ _) rfl ?_
        (try simp only [ex,reduceIte,reduceCtorEq,Nat.reduceEqDiff,Nat.reduceLT,Nat.reduceLeDiff,Nat.reduceAdd,Nat.reduceSub,Nat.reduceMul,Int.reduceAdd,Int.reduceSub,Int.reduceMul,Int.reduceNeg,Int.reduceLE,Int.reduceLT,Int.reduceEq,Int.reduceToNat]) <;> repeat ((with_reducible refine Req.intro ?_ ?_); (first | omega | (simp <;> omega)); try simp only [ex,reduceIte,reduceCtorEq,Nat.reduceEqDiff,Nat.reduceLT,Nat.reduceLeDiff,Nat.reduceAdd,Nat.reduceSub,Nat.reduceMul,Int.reduceAdd,Int.reduceSub,Int.reduceMul,Int.reduceNeg,Int.reduceLE,Int.reduceLT,Int.reduceEq,Int.reduceToNat])
        refine CallA.eq rfl (m2 _ _ _) rfl ?_
        (try simp only [lm, e0, ex,reduceIte,reduceCtorEq,Nat.reduceEqDiff,Nat.reduceLT,Nat.reduceLeDiff,Nat.reduceAdd,Nat.reduceSub,Nat.reduceMul,Int.reduceAdd,Int.reduceSub,Int.reduceMul,Int.reduceNeg,Int.reduceLE,Int.reduceLT,Int.reduceEq,Int.reduceToNat]) <;> repeat ((with_reducible refine Req.intro ?_ ?_); (first | omega | (simp <;> omega)); try simp only [lm, e0, ex,reduceIte,reduceCtorEq,Nat.reduceEqDiff,Nat.reduceLT,Nat.reduceLeDiff,Nat.reduceAdd,Nat.reduceSub,Nat.reduceMul,Int.reduceAdd,Int.reduceSub,Int.reduceMul,Int.reduceNeg,Int.reduceLE,Int.reduceLT,Int.reduceEq,Int.reduceToNat])
        refine loopI fun L hL => ?_
        (try simp only [ex,reduceIte,reduceCtorEq,Nat.reduceEqDiff,Nat.reduceLT,Nat.reduceLeDiff,Nat.reduceAdd,Nat.reduceSub,Nat.reduceMul,Int.reduceAdd,Int.reduceSub,Int.reduceMul,Int.reduceNeg,Int.reduceLE,Int.reduceLT,Int.reduceEq,Int.reduceToNat]) <;> repeat ((with_reducible refine Req.intro ?_ ?_); (first | omega | (simp <;> omega)); try simp only [ex,reduceIte,reduceCtorEq,Nat.reduceEqDiff,Nat.reduceLT,Nat.reduceLeDiff,Nat.reduceAdd,Nat.reduceSub,Nat.reduceMul,Int.reduceAdd,Int.reduceSub,Int.reduceMul,Int.reduceNeg,Int.reduceLE,Int.reduceLT,Int.reduceEq,Int.reduceToNat])
        have key : ∀ m i : Nat, i + m = rs.length → L (L6_1 (.sl false 1 (C.map .str)) (.sl false 1 (A.map .str)) (.sl false 1 (B.map .str)) (.sl false 5 (rs.map rgV)) (.sl false 5 ((rs.map sw).map rgV)) (.int .i64 i) [] 0) := by
          intro m
          induction m with
          | zero =>
            intro i hi
            have h1 : decide ((i : Int) < (rs.length : Int)) = false := by simp; omega
            apply hL
            simp only [L6_1, l6_1, ex,reduceIte,reduceCtorEq,Nat.reduceEqDiff,Nat.reduceLT,Nat.reduceLeDiff,Nat.reduceAdd,Nat.reduceSub,Nat.reduceMul,Int.reduceAdd,Int.reduceSub,Int.reduceMul,Int.reduceNeg,Int.reduceLE,Int.reduceLT,Int.reduceEq,Int.reduceToNat]
            (try simp only [h1, ex,reduceIte,reduceCtorEq,Nat.reduceEqDiff,Nat.reduceLT,Nat.reduceLeDiff,Nat.reduceAdd,Nat.reduceSub,Nat.reduceMul,Int.reduceAdd,Int.reduceSub,Int.reduceMul,Int.reduceNeg,Int.reduceLE,Int.reduceLT,Int.reduceEq,Int.reduceToNat]) <;> repeat ((with_reducible refine Req.intro ?_ ?_); (first | omega | (simp <;> omega)); try simp only [h1, ex,reduceIte,reduceCtorEq,Nat.reduceEqDiff,Nat.reduceLT,Nat.reduceLeDiff,Nat.reduceAdd,Nat.reduceSub,Nat.reduceMul,Int.reduceAdd,Int.reduceSub,Int.reduceMul,Int.reduceNeg,Int.reduceLE,Int.reduceLT,Int.reduceEq,Int.reduceToNat])
            refine CallA.eq rfl (mx _ _ _) rfl ?_
            (try simp only [ex,reduceIte,reduceCtorEq,Nat.reduceEqDiff,Nat.reduceLT,Nat.reduceLeDiff,Nat.reduceAdd,Nat.reduceSub,Nat.reduceMul,Int.reduceAdd,Int.reduceSub,Int.reduceMul,Int.reduceNeg,Int.reduceLE,Int.reduceLT,Int.reduceEq,Int.reduceToNat]) <;> repeat ((with_reducible refine Req.intro ?_ ?_); (first | omega | (simp <;> omega)); try simp only [ex,reduceIte,reduceCtorEq,Nat.reduceEqDiff,Nat.reduceLT,Nat.reduceLeDiff,Nat.reduceAdd,Nat.reduceSub,Nat.reduceMul,Int.reduceAdd,Int.reduceSub,Int.reduceMul,Int.reduceNeg,Int.reduceLE,Int.reduceLT,Int.reduceEq,Int.reduceToNat])
            refine CallA.eq rfl (my _ _ _) rfl ?_
            (try simp only [ex,reduceIte,reduceCtorEq,Nat.reduceEqDiff,Nat.reduceLT,Nat.reduceLeDiff,Nat.reduceAdd,Nat.reduceSub,Nat.reduceMul,Int.reduceAdd,Int.reduceSub,Int.reduceMul,Int.reduceNeg,Int.reduceLE,Int.reduceLT,Int.reduceEq,Int.reduceToNat]) <;> repeat ((with_reducible refine Req.intro ?_ ?_); (first | omega | (simp <;> omega)); try simp only [ex,reduceIte,reduceCtorEq,Nat.reduceEqDiff,Nat.reduceLT,Nat.reduceLeDiff,Nat.reduceAdd,Nat.reduceSub,Nat.reduceMul,Int.reduceAdd,Int.reduceSub,Int.reduceMul,Int.reduceNeg,Int.reduceLE,Int.reduceLT,Int.reduceEq,Int.reduceToNat])
            refine CallA.eq rfl (mz _ _ _) rfl ?_
            (try simp only [ex,reduceIte,reduceCtorEq,Nat.reduceEqDiff,Nat.reduceLT,Nat.reduceLeDiff,Nat.reduceAdd,Nat.reduceSub,Nat.reduceMul,Int.reduceAdd,Int.reduceSub,Int.reduceMul,Int.reduceNeg,Int.reduceLE,Int.reduceLT,Int.reduceEq,Int.reduceToNat]) <;> repeat ((with_reducible refine Req.intro ?_ ?_); (first | omega | (simp <;> omega)); try simp only [ex,reduceIte,reduceCtorEq,Nat.reduceEqDiff,Nat.reduceLT,Nat.reduceLeDiff,Nat.reduceAdd,Nat.reduceSub,Nat.reduceMul,Int.reduceAdd,Int.reduceSub,Int.reduceMul,Int.reduceNeg,Int.reduceLE,Int.reduceLT,Int.reduceEq,Int.reduceToNat])
            refine CallA.eq rfl lives_spec rfl ?_
            (try simp only [ex,reduceIte,reduceCtorEq,Nat.reduceEqDiff,Nat.reduceLT,Nat.reduceLeDiff,Nat.reduceAdd,Nat.reduceSub,Nat.reduceMul,Int.reduceAdd,Int.reduceSub,Int.reduceMul,Int.reduceNeg,Int.reduceLE,Int.reduceLT,Int.reduceEq,Int.reduceToNat]) <;> repeat ((with_reducible refine Req.intro ?_ ?_); (first | omega | (simp <;> omega)); try simp only [ex,reduceIte,reduceCtorEq,Nat.reduceEqDiff,Nat.reduceLT,Nat.reduceLeDiff,Nat.reduceAdd,Nat.reduceSub,Nat.reduceMul,Int.reduceAdd,Int.reduceSub,Int.reduceMul,Int.reduceNeg,Int.reduceLE,Int.reduceLT,Int.reduceEq,Int.reduceToNat])
            refine CallA.eq rfl (qx _) rfl ?_
            (try simp only [ex,reduceIte,reduceCtorEq,Nat.reduceEqDiff,Nat.reduceLT,Nat.reduceLeDiff,Nat.reduceAdd,Nat.reduceSub,Nat.reduceMul,Int.reduceAdd,Int.reduceSub,Int.reduceMul,Int.reduceNeg,Int.reduceLE,Int.reduceLT,Int.reduceEq,Int.reduceToNat]) <;> repeat ((with_reducible refine Req.intro ?_ ?_); (first | omega | (simp <;> omega)); try simp only [ex,reduceIte,reduceCtorEq,Nat.reduceEqDiff,Nat.reduceLT,Nat.reduceLeDiff,Nat.reduceAdd,Nat.reduceSub,Nat.reduceMul,Int.reduceAdd,Int.reduceSub,Int.reduceMul,Int.reduceNeg,Int.reduceLE,Int.reduceLT,Int.reduceEq,Int.reduceToNat])
            refine CallA.eq rfl (qy _) rfl ?_
            (try simp only [ex,reduceIte,reduceCtorEq,Nat.reduceEqDiff,Nat.reduceLT,Nat.reduceLeDiff,Nat.reduceAdd,Nat.reduceSub,Nat.reduceMul,Int.reduceAdd,Int.reduceSub,Int.reduceMul,Int.reduceNeg,Int.reduceLE,Int.reduceLT,Int.reduceEq,Int.reduceToNat]) <;> repeat ((with_reducible refine Req.intro ?_ ?_); (first | omega | (simp <;> omega)); try simp only [ex,reduceIte,reduceCtorEq,Nat.reduceEqDiff,Nat.reduceLT,Nat.reduceLeDiff,Nat.reduceAdd,Nat.reduceSub,Nat.reduceMul,Int.reduceAdd,Int.reduceSub,Int.reduceMul,Int.reduceNeg,Int.reduceLE,Int.reduceLT,Int.reduceEq,Int.reduceToNat])
            refine CallA.eq rfl (qz _) rfl ?_
            (try simp only [ex,reduceIte,reduceCtorEq,Nat.reduceEqDiff,Nat.reduceLT,Nat.reduceLeDiff,Nat.reduceAdd,Nat.reduceSub,Nat.reduceMul,Int.reduceAdd,Int.reduceSub,Int.reduceMul,Int.reduceNeg,Int.reduceLE,Int.reduceLT,Int.reduceEq,Int.reduceToNat]) <;> repeat ((with_reducible refine Req.intro ?_ ?_); (first | omega | (simp <;> omega)); try simp only [ex,reduceIte,reduceCtorEq,Nat.reduceEqDiff,Nat.reduceLT,Nat.reduceLeDiff,Nat.reduceAdd,Nat.reduceSub,Nat.reduceMul,Int.reduceAdd,Int.reduceSub,Int.reduceMul,Int.reduceNeg,Int.reduceLE,Int.reduceLT,Int.reduceEq,Int.reduceToNat])
            refine CallA.eq rfl (px _) rfl ?_
            (try simp only [ex,reduceIte,reduceCtorEq,Nat.reduceEqDiff,Nat.reduceLT,Nat.reduceLeDiff,Nat.reduceAdd,Nat.reduceSub,Nat.reduceMul,Int.reduceAdd,Int.reduceSub,Int.reduceMul,Int.reduceNeg,Int.reduceLE,Int.reduceLT,Int.reduceEq,Int.reduceToNat]) <;> repeat ((with_reducible refine Req.intro ?_ ?_); (first | omega | (simp <;> omega)); try simp only [ex,reduceIte,reduceCtorEq,Nat.reduceEqDiff,Nat.reduceLT,Nat.reduceLeDiff,Nat.reduceAdd,Nat.reduceSub,Nat.reduceMul,Int.reduceAdd,Int.reduceSub,Int.reduceMul,Int.reduceNeg,Int.reduceLE,Int.reduceLT,Int.reduceEq,Int.reduceToNat])
            refine CallA.eq rfl (same6_self _ _ B (by omega)) rfl ?_
            (try simp only [ex,reduceIte,reduceCtorEq,Nat.reduceEqDiff,Nat.reduceLT,Nat.reduceLeDiff,Nat.reduceAdd,Nat.reduceSub,Nat.reduceMul,Int.reduceAdd,Int.reduceSub,Int.reduceMul,Int.reduceNeg,Int.reduceLE,Int.reduceLT,Int.reduceEq,Int.reduceToNat]) <;> repeat ((with_reducible refine Req.intro ?_ ?_); (first | omega | (simp <;> omega)); try simp only [ex,reduceIte,reduceCtorEq,Nat.reduceEqDiff,Nat.reduceLT,Nat.reduceLeDiff,Nat.reduceAdd,Nat.reduceSub,Nat.reduceMul,Int.reduceAdd,Int.reduceSub,Int.reduceMul,Int.reduceNeg,Int.reduceLE,Int.reduceLT,Int.reduceEq,Int.reduceToNat])
            refine CallA.eq rfl (py _) rfl ?_
            (try simp only [ex,reduceIte,reduceCtorEq,Nat.reduceEqDiff,Nat.reduceLT,Nat.reduceLeDiff,Nat.reduceAdd,Nat.reduceSub,Nat.reduceMul,Int.reduceAdd,Int.reduceSub,Int.reduceMul,Int.reduceNeg,Int.reduceLE,Int.reduceLT,Int.reduceEq,Int.reduceToNat]) <;> repeat ((with_reducible refine Req.intro ?_ ?_); (first | omega | (simp <;> omega)); try simp only [ex,reduceIte,reduceCtorEq,Nat.reduceEqDiff,Nat.reduceLT,Nat.reduceLeDiff,Nat.reduceAdd,Nat.reduceSub,Nat.reduceMul,Int.reduceAdd,Int.reduceSub,Int.reduceMul,Int.reduceNeg,Int.reduceLE,Int.reduceLT,Int.reduceEq,Int.reduceToNat])
            refine CallA.eq rfl (same6_self _ _ A (by omega)) rfl ?_
            (try simp only [ex,reduceIte,reduceCtorEq,Nat.reduceEqDiff,Nat.reduceLT,Nat.reduceLeDiff,Nat.reduceAdd,Nat.reduceSub,Nat.reduceMul,Int.reduceAdd,Int.reduceSub,Int.reduceMul,Int.reduceNeg,Int.reduceLE,Int.reduceLT,Int.reduceEq,Int.reduceToNat]) <;> repeat ((with_reducible refine Req.intro ?_ ?_); (first | omega | (simp <;> omega)); try simp only [ex,reduceIte,reduceCtorEq,Nat.reduceEqDiff,Nat.reduceLT,Nat.reduceLeDiff,Nat.reduceAdd,Nat.reduceSub,Nat.reduceMul,Int.reduceAdd,Int.reduceSub,Int.reduceMul,Int.reduceNeg,Int.reduceLE,Int.reduceLT,Int.reduceEq,Int.reduceToNat])
            refine CallA.eq rfl (pz _) rfl ?_
            (try simp only [ex,reduceIte,reduceCtorEq,Nat.reduceEqDiff,Nat.reduceLT,Nat.reduceLeDiff,Nat.reduceAdd,Nat.reduceSub,Nat.reduceMul,Int.reduceAdd,Int.reduceSub,Int.reduceMul,Int.reduceNeg,Int.reduceLE,Int.reduceLT,Int.reduceEq,Int.reduceToNat]) <;> repeat ((with_reducible refine Req.intro ?_ ?_); (first | omega | (simp <;> omega)); try simp only [ex,reduceIte,reduceCtorEq,Nat.reduceEqDiff,Nat.reduceLT,Nat.reduceLeDiff,Nat.reduceAdd,Nat.reduceSub,Nat.reduceMul,Int.reduceAdd,Int.reduceSub,Int.reduceMul,Int.reduceNeg,Int.reduceLE,Int.reduceLT,Int.reduceEq,Int.reduceToNat])
            refine CallA.eq rfl (same6_self _ _ A (by omega)) rfl ?_
            (try simp only [ex,reduceIte,reduceCtorEq,Nat.reduceEqDiff,Nat.reduceLT,Nat.reduceLeDiff,Nat.reduceAdd,Nat.reduceSub,Nat.reduceMul,Int.reduceAdd,Int.reduceSub,Int.reduceMul,Int.reduceNeg,Int.reduceLE,Int.reduceLT,Int.reduceEq,Int.reduceToNat]) <;> repeat ((with_reducible refine Req.intro ?_ ?_); (first | omega | (simp <;> omega)); try simp only [ex,reduceIte,reduceCtorEq,Nat.reduceEqDiff,Nat.reduceLT,Nat.reduceLeDiff,Nat.reduceAdd,Nat.reduceSub,Nat.reduceMul,Int.reduceAdd,Int.reduceSub,Int.reduceMul,Int.reduceNeg,Int.reduceLE,Int.reduceLT,Int.reduceEq,Int.reduceToNat])
          | succ m ih =>
            intro i hi
            have h1 : decide ((i : Int) < (rs.length : Int)) = true := by simp; omega
            have g1 : rs[i]? = some (rs[i]'(by omega)) := List.getElem?_eq_getElem _
            have g2 : (rs.map sw)[i]? = some (sw (rs[i]'(by omega))) := by rw [List.getElem?_map, g1]; rfl
            have hm : rs[i]'(by omega) ∈ rs := List.getElem_mem _
            generalize rs[i]'(by omega) = r at *
            have hr := hok.2 r hm
            have hcl : (rgV r).cells = [.int .i64 r.k, .sl false 1 (r.l.map .str), .sl false 1 (r.o.map .str), .sl false 1 (r.b.map .str), .sl false 1 (r.t.map .str)] := rfl
            have hcw : (rgV (sw r)).cells = [.int .i64 r.k, .sl false 1 (r.l.map .str), .sl false 1 (r.t.map .str), .sl false 1 (r.b.map .str), .sl false 1 (r.o.map .str)] := rfl
            have d1 : decide (r.k = r.k) = true := decide_eq_true rfl
            have h9 := ih (i + 1) (by omega)
            have lm2 : ((rs.map sw).map rgV).length = rs.length := by simp
            generalize rs.map sw = ws at *
            apply hL
            simp only [L6_1, l6_1, ex,reduceIte,reduceCtorEq,Nat.reduceEqDiff,Nat.reduceLT,Nat.reduceLeDiff,Nat.reduceAdd,Nat.reduceSub,Nat.reduceMul,Int.reduceAdd,Int.reduceSub,Int.reduceMul,Int.reduceNeg,Int.reduceLE,Int.reduceLT,Int.reduceEq,Int.reduceToNat]
            (try simp only [h1, g1, g2, hcl, hcw, d1, ex,reduceIte,reduceCtorEq,Nat.reduceEqDiff,Nat.reduceLT,Nat.reduceLeDiff,Nat.reduceAdd,Nat.reduceSub,Nat.reduceMul,Int.reduceAdd,Int.reduceSub,Int.reduceMul,Int.reduceNeg,Int.reduceLE,Int.reduceLT,Int.reduceEq,Int.reduceToNat]) <;> repeat ((with_reducible refine Req.intro ?_ ?_); (first | omega | (simp <;> omega)); try simp only [h1, g1, g2, hcl, hcw, d1, ex,reduceIte,reduceCtorEq,Nat.reduceEqDiff,Nat.reduceLT,Nat.reduceLeDiff,Nat.reduceAdd,Nat.reduceSub,Nat.reduceMul,Int.reduceAdd,Int.reduceSub,Int.reduceMul,Int.reduceNeg,Int.reduceLE,Int.reduceLT,Int.reduceEq,Int.reduceToNat])
            refine CallD.eq rfl (same6_self _ _ r.l (by omega)) rfl ?_
            (try simp only [g1, g2, hcl, hcw, ex,reduceIte,reduceCtorEq,Nat.reduceEqDiff,Nat.reduceLT,Nat.reduceLeDiff,Nat.reduceAdd,Nat.reduceSub,Nat.reduceMul,Int.reduceAdd,Int.reduceSub,Int.reduceMul,Int.reduceNeg,Int.reduceLE,Int.reduceLT,Int.reduceEq,Int.reduceToNat]) <;> repeat ((with_reducible refine Req.intro ?_ ?_); (first | omega | (simp <;> omega)); try simp only [g1, g2, hcl, hcw, ex,reduceIte,reduceCtorEq,Nat.reduceEqDiff,Nat.reduceLT,Nat.reduceLeDiff,Nat.reduceAdd,Nat.reduceSub,Nat.reduceMul,Int.reduceAdd,Int.reduceSub,Int.reduceMul,Int.reduceNeg,Int.reduceLE,Int.reduceLT,Int.reduceEq,Int.reduceToNat])
            refine CallD.eq rfl (same6_self _ _ r.o (by omega)) rfl ?_
            (try simp only [g1, g2, hcl, hcw, ex,reduceIte,reduceCtorEq,Nat.reduceEqDiff,Nat.reduceLT,Nat.reduceLeDiff,Nat.reduceAdd,Nat.reduceSub,Nat.reduceMul,Int.reduceAdd,Int.reduceSub,Int.reduceMul,Int.reduceNeg,Int.reduceLE,Int.reduceLT,Int.reduceEq,Int.reduceToNat]) <;> repeat ((with_reducible refine Req.intro ?_ ?_); (first | omega | (simp <;> omega)); try simp only [g1, g2, hcl, hcw, ex,reduceIte,reduceCtorEq,Nat.reduceEqDiff,Nat.reduceLT,Nat.reduceLeDiff,Nat.reduceAdd,Nat.reduceSub,Nat.reduceMul,Int.reduceAdd,Int.reduceSub,Int.reduceMul,Int.reduceNeg,Int.reduceLE,Int.reduceLT,Int.reduceEq,Int.reduceToNat])
            refine CallD.eq rfl (same6_self _ _ r.t (by omega)) rfl ?_
            (try simp only [g1, g2, hcl, hcw, ex,reduceIte,reduceCtorEq,Nat.reduceEqDiff,Nat.reduceLT,Nat.reduceLeDiff,Nat.reduceAdd,Nat.reduceSub,Nat.reduceMul,Int.reduceAdd,Int.reduceSub,Int.reduceMul,Int.reduceNeg,Int.reduceLE,Int.reduceLT,Int.reduceEq,Int.reduceToNat]) <;> repeat ((with_reducible refine Req.intro ?_ ?_); (first | omega | (simp <;> omega)); try simp only [g1, g2, hcl, hcw, ex,reduceIte,reduceCtorEq,Nat.reduceEqDiff,Nat.reduceLT,Nat.reduceLeDiff,Nat.reduceAdd,Nat.reduceSub,Nat.reduceMul,Int.reduceAdd,Int.reduceSub,Int.reduceMul,Int.reduceNeg,Int.reduceLE,Int.reduceLT,Int.reduceEq,Int.reduceToNat])
            refine CallD.eq rfl (same6_self _ _ r.b (by omega)) rfl ?_
            (try simp only [ex,reduceIte,reduceCtorEq,Nat.reduceEqDiff,Nat.reduceLT,Nat.reduceLeDiff,Nat.reduceAdd,Nat.reduceSub,Nat.reduceMul,Int.reduceAdd,Int.reduceSub,Int.reduceMul,Int.reduceNeg,Int.reduceLE,Int.reduceLT,Int.reduceEq,Int.reduceToNat]) <;> repeat ((with_reducible refine Req.intro ?_ ?_); (first | omega | (simp <;> omega)); try simp only [ex,reduceIte,reduceCtorEq,Nat.reduceEqDiff,Nat.reduceLT,Nat.reduceLeDiff,Nat.reduceAdd,Nat.reduceSub,Nat.reduceMul,Int.reduceAdd,Int.reduceSub,Int.reduceMul,Int.reduceNeg,Int.reduceLE,Int.reduceLT,Int.reduceEq,Int.reduceToNat])
            exact h9
        exact key rs.length 0 (Nat.zero_add _)
end Go.Proofs.Ytnodepfoahmcmaa.E.Hs
