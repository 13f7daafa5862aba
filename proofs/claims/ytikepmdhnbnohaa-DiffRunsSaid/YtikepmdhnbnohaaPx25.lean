-- written by mp.py, a program of this session, over the kit's printer
import Derived.Test.YtikepmdhnbnohaaPx0
namespace Go.Proofs.Ytikepmdhnbnohaa.P
open Go.RowKit Go.Proofs.YtikepmdhnbnohaaW.PrintWords Go.Proofs.YtikepmdhnbnohaaW.PrintLast Go.Proofs.YtikepmdhnbnohaaW.PrintMore
attribute [local go_sem] max2_int min2_int max_two min_two max_three min_three max_four min_four   -- for this text's walks alone
set_option linter.unusedVariables false
set_option linter.unusedSimpArgs false

/-! ### graftageref08_Of: function 27 -/
mutual
def graftageref08_Of.j0 : Nat → Int → Int → List (S32) → Bool → Option ((List (S44)))
  | 0, _, _, _, _ => none
  | k + 1, x0, x1, x2, x17 => if x17 = true then (some ([] : List (S44))) else (graftageref08_Of.l0 k x0 x1 x2 ([] : List (S44)) 0 0 (x2.length : Int) 0)
def graftageref08_Of.l0 : Nat → Int → Int → List (S32) → List (S44) → Int → Int → Int → Int → Option ((List (S44)))
  | 0, _, _, _, _, _, _, _, _ => none
  | k + 1, x0, x1, x2, x7, x8, x9, x19, x20 => if x20 < x19 then (if 0 ≤ x20 then (if x20 < (x2.length : Int) then (if ((rd_T32 x2 x20).f2) < 1 then (graftageref08_Of.j2 k x0 x1 x2 x7 x8 x9 x19 x20 true ((rd_T32 x2 x20).f0) ((rd_T32 x2 x20).f1) ((rd_T32 x2 x20).f2)) else (if ((rd_T32 x2 x20).f0) < x8 then (graftageref08_Of.j2 k x0 x1 x2 x7 x8 x9 x19 x20 true ((rd_T32 x2 x20).f0) ((rd_T32 x2 x20).f1) ((rd_T32 x2 x20).f2)) else (if ((rd_T32 x2 x20).f1) < x9 then (graftageref08_Of.j2 k x0 x1 x2 x7 x8 x9 x19 x20 true ((rd_T32 x2 x20).f0) ((rd_T32 x2 x20).f1) ((rd_T32 x2 x20).f2)) else (if ((rd_T32 x2 x20).f0) > x0 then (graftageref08_Of.j2 k x0 x1 x2 x7 x8 x9 x19 x20 true ((rd_T32 x2 x20).f0) ((rd_T32 x2 x20).f1) ((rd_T32 x2 x20).f2)) else (if ((rd_T32 x2 x20).f1) > x1 then (graftageref08_Of.j2 k x0 x1 x2 x7 x8 x9 x19 x20 true ((rd_T32 x2 x20).f0) ((rd_T32 x2 x20).f1) ((rd_T32 x2 x20).f2)) else (if ((rd_T32 x2 x20).f2) > (wrap64 (x0 - ((rd_T32 x2 x20).f0))) then (graftageref08_Of.j2 k x0 x1 x2 x7 x8 x9 x19 x20 true ((rd_T32 x2 x20).f0) ((rd_T32 x2 x20).f1) ((rd_T32 x2 x20).f2)) else (graftageref08_Of.j2 k x0 x1 x2 x7 x8 x9 x19 x20 (decide (((rd_T32 x2 x20).f2) > (wrap64 (x1 - ((rd_T32 x2 x20).f1))))) ((rd_T32 x2 x20).f0) ((rd_T32 x2 x20).f1) ((rd_T32 x2 x20).f2)))))))) else (none)) else (none)) else (if x0 > x8 then (if x7.length < 4398046511104 then (some (x7 ++ [(⟨x8, wrap64 (x0 - x8), x9, wrap64 (x1 - x9)⟩ : S44)])) else (none)) else (if x1 > x9 then (if x7.length < 4398046511104 then (some (x7 ++ [(⟨x8, wrap64 (x0 - x8), x9, wrap64 (x1 - x9)⟩ : S44)])) else (none)) else (some x7)))
def graftageref08_Of.j2 : Nat → Int → Int → List (S32) → List (S44) → Int → Int → Int → Int → Bool → Int → Int → Int → Option ((List (S44)))
  | 0, _, _, _, _, _, _, _, _, _, _, _, _ => none
  | k + 1, x0, x1, x2, x7, x8, x9, x19, x20, x71, x368000, x368001, x368002 => if x71 = true then (some ([] : List (S44))) else (if x368000 > x8 then (if x7.length < 4398046511104 then (graftageref08_Of.l0 k x0 x1 x2 (x7 ++ [(⟨x8, wrap64 (x368000 - x8), x9, wrap64 (x368001 - x9)⟩ : S44)]) (wrap64 (x368000 + x368002)) (wrap64 (x368001 + x368002)) x19 (wrap64 (x20 + 1))) else (none)) else (if x368001 > x9 then (if x7.length < 4398046511104 then (graftageref08_Of.l0 k x0 x1 x2 (x7 ++ [(⟨x8, wrap64 (x368000 - x8), x9, wrap64 (x368001 - x9)⟩ : S44)]) (wrap64 (x368000 + x368002)) (wrap64 (x368001 + x368002)) x19 (wrap64 (x20 + 1))) else (none)) else (graftageref08_Of.l0 k x0 x1 x2 x7 (wrap64 (x368000 + x368002)) (wrap64 (x368001 + x368002)) x19 (wrap64 (x20 + 1)))))
end
def graftageref08_Of.f (k : Nat) (a0 : Int) (a1 : Int) (l2 : List (S32)) : Option ((List (S44))) := if a0 < 0 then (graftageref08_Of.j0 k a0 a1 l2 true) else (graftageref08_Of.j0 k a0 a1 l2 (decide (a1 < 0)))
theorem graftageref08_Of.mono_l : ∀ k, (∀ y0 y1 y2 y3, LeO (graftageref08_Of.j0 k y0 y1 y2 y3) (graftageref08_Of.j0 (k + 1) y0 y1 y2 y3)) ∧ (∀ y0 y1 y2 y3 y4 y5 y6 y7, LeO (graftageref08_Of.l0 k y0 y1 y2 y3 y4 y5 y6 y7) (graftageref08_Of.l0 (k + 1) y0 y1 y2 y3 y4 y5 y6 y7)) ∧ (∀ y0 y1 y2 y3 y4 y5 y6 y7 y8 y9 y10 y11, LeO (graftageref08_Of.j2 k y0 y1 y2 y3 y4 y5 y6 y7 y8 y9 y10 y11) (graftageref08_Of.j2 (k + 1) y0 y1 y2 y3 y4 y5 y6 y7 y8 y9 y10 y11))
  | 0 => ⟨fun _ _ _ _ r h => by simp [graftageref08_Of.j0] at h, fun _ _ _ _ _ _ _ _ r h => by simp [graftageref08_Of.l0] at h, fun _ _ _ _ _ _ _ _ _ _ _ _ r h => by simp [graftageref08_Of.j2] at h⟩
  | k + 1 => by
    obtain ⟨ih0, ih1, ih2⟩ := graftageref08_Of.mono_l k
    refine ⟨?_, ?_, ?_⟩
    · intro y0 y1 y2 y3
      unfold graftageref08_Of.j0
      repeat' first
      | (with_reducible exact ih0 _ _ _ _)
      | (with_reducible exact ih1 _ _ _ _ _ _ _ _)
      | (with_reducible exact ih2 _ _ _ _ _ _ _ _ _ _ _ _)
      | (with_reducible exact LeO.refl _)
      | (with_reducible exact LeO.none _)
      | (with_reducible refine LeO.ite ?_ ?_)
      | (with_reducible refine LeO.bind ?_ (fun _ => ?_))
      | exact ih0 _ _ _ _
      | exact ih1 _ _ _ _ _ _ _ _
      | exact ih2 _ _ _ _ _ _ _ _ _ _ _ _
      | exact LeO.none _
      | refine LeO.ite ?_ ?_
      | refine LeO.bind ?_ (fun _ => ?_)
    · intro y0 y1 y2 y3 y4 y5 y6 y7
      unfold graftageref08_Of.l0
      repeat' first
      | (with_reducible exact ih0 _ _ _ _)
      | (with_reducible exact ih1 _ _ _ _ _ _ _ _)
      | (with_reducible exact ih2 _ _ _ _ _ _ _ _ _ _ _ _)
      | (with_reducible exact LeO.refl _)
      | (with_reducible exact LeO.none _)
      | (with_reducible refine LeO.ite ?_ ?_)
      | (with_reducible refine LeO.bind ?_ (fun _ => ?_))
      | exact ih0 _ _ _ _
      | exact ih1 _ _ _ _ _ _ _ _
      | exact ih2 _ _ _ _ _ _ _ _ _ _ _ _
      | exact LeO.none _
      | refine LeO.ite ?_ ?_
      | refine LeO.bind ?_ (fun _ => ?_)
    · intro y0 y1 y2 y3 y4 y5 y6 y7 y8 y9 y10 y11
      unfold graftageref08_Of.j2
      repeat' first
      | (with_reducible exact ih0 _ _ _ _)
      | (with_reducible exact ih1 _ _ _ _ _ _ _ _)
      | (with_reducible exact ih2 _ _ _ _ _ _ _ _ _ _ _ _)
      | (with_reducible exact LeO.refl _)
      | (with_reducible exact LeO.none _)
      | (with_reducible refine LeO.ite ?_ ?_)
      | (with_reducible refine LeO.bind ?_ (fun _ => ?_))
      | exact ih0 _ _ _ _
      | exact ih1 _ _ _ _ _ _ _ _
      | exact ih2 _ _ _ _ _ _ _ _ _ _ _ _
      | exact LeO.none _
      | refine LeO.ite ?_ ?_
      | refine LeO.bind ?_ (fun _ => ?_)
theorem graftageref08_Of.mono : ∀ a0 a1 a2 k, LeO (graftageref08_Of.f k a0 a1 a2) (graftageref08_Of.f (k + 1) a0 a1 a2) := by
  intro a0 a1 a2 k
  obtain ⟨ih0, ih1, ih2⟩ := graftageref08_Of.mono_l k
  unfold graftageref08_Of.f
  repeat' first
      | (with_reducible exact ih0 _ _ _ _)
      | (with_reducible exact ih1 _ _ _ _ _ _ _ _)
      | (with_reducible exact ih2 _ _ _ _ _ _ _ _ _ _ _ _)
      | (with_reducible exact LeO.refl _)
      | (with_reducible exact LeO.none _)
      | (with_reducible refine LeO.ite ?_ ?_)
      | (with_reducible refine LeO.bind ?_ (fun _ => ?_))
      | exact ih0 _ _ _ _
      | exact ih1 _ _ _ _ _ _ _ _
      | exact ih2 _ _ _ _ _ _ _ _ _ _ _ _
      | exact LeO.none _
      | refine LeO.ite ?_ ?_
      | refine LeO.bind ?_ (fun _ => ?_)
set_option maxHeartbeats 8000000 in
set_option maxRecDepth 100000 in
theorem graftageref08_Of.calls (k : Nat) (a0 : Int) (a1 : Int) (A2 : Option Addr) (c2 : Nat) (l2 : List (S32)) (r : List (S44)) (w : World) (hr2 : Kd.C k32 w A2 l2.length l2) (hc2 : l2.length ≤ c2) (h : graftageref08_Of.f k a0 a1 l2 = some r) :
    Calls Try.prog 27 #[.int .i64 a0, .int .i64 a1, .slice A2 l2.length c2] w fun e w' => ∃ v0_ : Value, e = .returned (v0_) ∧ Kd.R k44 44 w' w.heap.size (fun _ => True) v0_ r ∧ Below w.heap.size w w' := by
  have hu32 := Try.underlying32
  have hu44 := Try.underlying44
  have HR2 := Aside0.mk hr2
  have HC2 := Aside0.mk hc2
  clear hr2 hc2
  have HB := Aside0.mk (Below.refl w.heap.size w)
  have H : (if a0 < 0 then (graftageref08_Of.j0 k a0 a1 l2 true) else (graftageref08_Of.j0 k a0 a1 l2 (decide (a1 < 0)))) = some r := h
  clear h
  have HC4 := Aside0.mk H
  clear H
  go_enter Try.func27, Try.ntmps27
  go_upto_region 1 with (fail)
  go_cut [17] (fun v17 wc => ∃ (kq : Nat) (x17_3 : Bool), v17 = .bool x17_3 ∧ Aside0 (graftageref08_Of.j0 kq a0 a1 l2 x17_3 = some r) ∧ Aside0 (kq ≤ k) ∧ Aside0 (Below w.heap.size w wc))
  case first =>
    have H := HC4.out
    clear HC4
    by_cases c5 : a0 < 0
    · rw [if_pos c5] at H
      have c5b0 : decide (a0 < 0) = true := decide_eq_true c5
      clear c5
      (first | rw [c5b0] | (simp only [i64_w, i32_w]; rw [c5b0]) | skip)
      have H' := Aside0.mk H
      clear H
      go_wp2
      go_meet
      case rel => exact ⟨_, (true), (by first | rfl | (simp; done) | (simp [*]; done)), H', ⟨by first | omega | exact Nat.le_refl _⟩, ⟨by repeat (first | (with_reducible first | exact HB.out | apply below_alloc | apply pw_below_drewN | apply below_drew1) | exact HB.out)⟩⟩
    · rw [if_neg c5] at H
      have c5b0 : decide (a0 < 0) = false := decide_eq_false c5
      clear c5
      (first | rw [c5b0] | (simp only [i64_w, i32_w]; rw [c5b0]) | skip)
      have H' := Aside0.mk H
      clear H
      go_wp2
      go_meet
      case rel => exact ⟨_, (decide (a1 < 0)), (by first | rfl | (simp; done) | (simp [*]; done)), H', ⟨by first | omega | exact Nat.le_refl _⟩, ⟨by repeat (first | (with_reducible first | exact HB.out | apply below_alloc | apply pw_below_drewN | apply below_drew1) | exact HB.out)⟩⟩
  case rest =>
    clear HC4
    try clear c2
    try clear p2
    try clear c5
    try clear c5b0
    obtain ⟨kq, x17_3, rfl, HA, HJ3, HB⟩ := hcut
    cases kq with
    | zero => exact absurd HA.out (by simp [graftageref08_Of.j0])
    | succ kj3 =>
      have H := HA.out
      clear HA
      simp only [graftageref08_Of.j0] at H
      by_cases c6 : x17_3 = true
      · subst c6
        have H1 : (some ([] : List (S44))) = some r := by rw [if_pos rfl] at H; exact H
        clear H
        have H := H1
        clear H1
        obtain rfl := Option.some.inj H
        go_wp2
        go_ret
        exact ⟨_, by first | rfl | (simp [errW_none, errW_some] <;> rfl) | (simp [*, errW_none, errW_some] <;> rfl), by first | exact Kd.R_nil _ _ _ _ _ | exact Kd.N_nil _ _ _ _ _ | exact Kd.V_nil _ _ _ _ _ | exact Kd.Q_nil _ _ _ _ _ | exact Kd.S_nil _ _ _ _ _, by repeat (first | (with_reducible first | exact HB.out | apply below_alloc | apply pw_below_drewN | apply below_drew1) | exact HB.out)⟩
      · replace c6 := Bool.eq_false_iff.mpr c6
        subst c6
        have H1 : (graftageref08_Of.l0 kj3 a0 a1 l2 ([] : List (S44)) 0 0 (l2.length : Int) 0) = some r := by rw [if_neg (show ¬ (false = true) by decide)] at H; exact H
        clear H
        have H := H1
        clear H1
        have H' := Aside0.mk H
        clear H
        go_wp2
        go_loopg [7, 8, 9, 20] kj3 (fun kq v7 v8 v9 v20 w' => ∃ (x7_2 : List (S44)) (x8_2 : Int) (x9_2 : Int) (x20_2 : Int), v8 = .int .i64 x8_2 ∧ v9 = .int .i64 x9_2 ∧ v20 = .int .i64 x20_2 ∧ Aside0 (graftageref08_Of.l0 kq a0 a1 l2 x7_2 x8_2 x9_2 (l2.length : Int) x20_2 = some r) ∧ Aside0 (kq ≤ kj3) ∧ Aside0 (Kd.R k44 44 w' w.heap.size (fun _ => True) v7 x7_2) ∧ Aside0 (Below w.heap.size w w'))
        case atStart => exact ⟨(([] : List (S44))), (0), (0), (0), (by first | rfl | (simp; done) | (simp [*]; done)), (by first | rfl | (simp; done) | (simp [*]; done)), (by first | rfl | (simp; done) | (simp [*]; done)), H', ⟨Nat.le_refl _⟩, ⟨by first | exact Kd.R_nil _ _ _ _ _ | exact Kd.N_nil _ _ _ _ _ | exact Kd.V_nil _ _ _ _ _ | exact Kd.Q_nil _ _ _ _ _ | exact Kd.S_nil _ _ _ _ _⟩, ⟨by repeat (first | (with_reducible first | exact HB.out | apply below_alloc | apply pw_below_drewN | apply below_drew1) | exact HB.out)⟩⟩
        case round =>
          clear H'
          try clear c2
          try clear p2
          try clear c5
          try clear c5b0
          try clear c6
          try clear p2
          obtain ⟨x7_2, x8_2, x9_2, x20_2, rfl, rfl, rfl, HA, HK2, HO_7, HB⟩ := hrel
          cases gk with
          | zero => exact absurd HA.out (by simp [graftageref08_Of.l0])
          | succ k2 =>
            have H := HA.out
            clear HA
            simp only [graftageref08_Of.l0] at H
            by_cases c7 : x20_2 < (l2.length : Int)
            · rw [if_pos c7] at H
              have c7b0 : decide (x20_2 < (l2.length : Int)) = true := decide_eq_true c7
              clear c7
              by_cases c8 : 0 ≤ x20_2
              · rw [if_pos c8] at H
                have c8b0 : decide (0 ≤ x20_2) = true := decide_eq_true c8
                clear c8
                by_cases c9 : x20_2 < (l2.length : Int)
                · rw [if_pos c9] at H
                  have c9b0 : decide (x20_2 < (l2.length : Int)) = true := decide_eq_true c9
                  clear c9
                  have HC10 := Aside0.mk H
                  clear H
                  have p366 : 0 ≤ (x20_2 : Int) := of_decide_eq_true (by first | (with_reducible assumption) | assumption)
                  have q366 : x20_2 < (l2.length : Int) := of_decide_eq_true (by first | (with_reducible assumption) | assumption)
                  obtain ⟨ad366, e366, hx366_0, hx366_1, hx366_2⟩ := at_T32 HR2.out x20_2 p366 q366
                  cases e366
                  replace hx366_0 := (HB.out.cell (World.block_lt_of_cell? w _ hx366_0)).trans hx366_0
                  replace hx366_1 := (HB.out.cell (World.block_lt_of_cell? w _ hx366_1)).trans hx366_1
                  replace hx366_2 := (HB.out.cell (World.block_lt_of_cell? w _ hx366_2)).trans hx366_2
                  replace p366 := eq_true p366
                  replace q366 := eq_true q366
                  go_upto_region 10 with (first | ((with_reducible refine gate_dst (N := 11) rfl ?_); refine box_event ?hg (N := 11) ?hd (cs := #[.int .i64 0, .int .i64 0, .int .i64 0]) (t := 32) ?hr ?_; (case hd => rfl); (case hg => rfl); (case hr => first | (go_simp; done) | (go_simp; rfl)); intro gb367 hg w11 hbox hb; have n0_ := Aside0.mk (Kd.R_below (by (with_reducible repeat (first | apply Kd.R_alloc | apply Kd.R_drewN | apply Kd.R_drew)); exact HO_7.out) hb); have n1_ := Aside0.mk (below_step (by repeat (first | (with_reducible first | exact HB.out | apply below_alloc | apply pw_below_drewN | apply below_drew1) | exact HB.out)) hb); have n2_ := Aside0.mk (hbox); have n3_ := Aside0.mk ((by rw [hg]; exact (below_size (by repeat (first | (with_reducible first | exact HB.out | apply below_alloc | apply pw_below_drewN | apply below_drew1) | exact HB.out))) : w.heap.size ≤ gb367)); have n4_ := Aside0.mk ((by rw [hg]; exact (below_size (by repeat (first | (with_reducible first | exact HB.out | apply below_alloc | apply pw_below_drewN | apply below_drew1) | exact HB.out))) : w.heap.size ≤ gb367)); clear HO_7; clear HB; have HO_7 := n0_; have HB := n1_; have BK367 := n2_; have GW367 := n3_; have GE367 := n4_; clear n0_ n1_ n2_ n3_ n4_; clear hb hbox hg; have hcz12_0 : w11.cell? ⟨gb367, 0, none⟩ = some (.int .i64 0) := (blk_cell BK367.out 0).trans rfl; have hcz12_1 : w11.cell? ⟨gb367, 1, none⟩ = some (.int .i64 0) := (blk_cell BK367.out 1).trans rfl; have hcz12_2 : w11.cell? ⟨gb367, 2, none⟩ = some (.int .i64 0) := (blk_cell BK367.out 2).trans rfl; have hfz12_0 := blk_frozen BK367.out 0; have hfz12_1 := blk_frozen BK367.out 1; have hfz12_2 := blk_frozen BK367.out 2))
                  (try simp only [Act.put, List.setIfInBounds_toArray, List.set_cons_zero, List.set_cons_succ])
                  go_cut [71] (fun v71 wc => ∃ (kq : Nat) (x71_9 : Bool), v71 = .bool x71_9 ∧ Aside0 (graftageref08_Of.j2 kq a0 a1 l2 x7_2 x8_2 x9_2 (l2.length : Int) x20_2 x71_9 ((rd_T32 l2 x20_2).f0) ((rd_T32 l2 x20_2).f1) ((rd_T32 l2 x20_2).f2) = some r) ∧ Aside0 (kq ≤ k2) ∧ Aside0 (Kd.R k44 44 wc w.heap.size (fun _ => True) u7 x7_2) ∧ Aside0 (wc.heap[gb367]? = some (.cells #[.int .i64 ((rd_T32 l2 x20_2).f0), .int .i64 ((rd_T32 l2 x20_2).f1), .int .i64 ((rd_T32 l2 x20_2).f2)] 32 (0, 0))) ∧ Aside0 (Below w.heap.size w wc))
                  case first =>
                    have H := HC10.out
                    clear HC10
                    by_cases c13 : ((rd_T32 l2 x20_2).f2) < 1
                    · rw [if_pos c13] at H
                      have c13b0 : decide (((rd_T32 l2 x20_2).f2) < 1) = true := decide_eq_true c13
                      clear c13
                      (first | rw [c13b0] | (simp only [i64_w, i32_w]; rw [c13b0]) | skip)
                      have H' := Aside0.mk H
                      clear H
                      have hcz14_0 : w11.cell? ⟨gb367, 0, none⟩ = some (.int .i64 0) := (blk_cell BK367.out 0).trans rfl
                      have hcz14_1 : w11.cell? ⟨gb367, 1, none⟩ = some (.int .i64 0) := (blk_cell BK367.out 1).trans rfl
                      have hcz14_2 : w11.cell? ⟨gb367, 2, none⟩ = some (.int .i64 0) := (blk_cell BK367.out 2).trans rfl
                      have hfz14_0 := blk_frozen BK367.out 0
                      have hfz14_1 := blk_frozen BK367.out 1
                      have hfz14_2 := blk_frozen BK367.out 2
                      go_wp2
                      go_meet
                      case rel => exact ⟨_, (true), (by first | rfl | (simp; done) | (simp [*]; done)), H', ⟨by have := HJ3.out; have := HK2.out; first | omega | exact Nat.le_refl _⟩, ⟨by (with_reducible repeat (first | apply Kd.R_alloc | apply Kd.R_drewN | apply Kd.R_drew)); exact Kd.R_mono (Kd.R_far (p := ⟨gb367, 2, none⟩) (Kd.R_far (p := ⟨gb367, 1, none⟩) (Kd.R_far (p := ⟨gb367, 0, none⟩) (Kd.R_types HO_7.out BK367.out (by decide)) (fun _ hk => hk.2) (.int .i64 ((rd_T32 l2 x20_2).f0))) (fun _ hk => hk.2) (.int .i64 ((rd_T32 l2 x20_2).f1))) (fun _ hk => hk.2) (.int .i64 ((rd_T32 l2 x20_2).f2))) (fun _ hk => trivial)⟩, ⟨by (with_reducible repeat (first | refine blk_drewN ?_ _ | refine blk_drew ?_ | refine blk_alloc ?_ _)); refine blk_put (cs := #[.int .i64 ((rd_T32 l2 x20_2).f0), .int .i64 ((rd_T32 l2 x20_2).f1), .int .i64 0]) ?_ 2 _ rfl; (with_reducible repeat (first | refine blk_drewN ?_ _ | refine blk_drew ?_ | refine blk_alloc ?_ _)); refine blk_put (cs := #[.int .i64 ((rd_T32 l2 x20_2).f0), .int .i64 0, .int .i64 0]) ?_ 1 _ rfl; (with_reducible repeat (first | refine blk_drewN ?_ _ | refine blk_drew ?_ | refine blk_alloc ?_ _)); refine blk_put (cs := #[.int .i64 0, .int .i64 0, .int .i64 0]) ?_ 0 _ rfl; (with_reducible repeat (first | refine blk_drewN ?_ _ | refine blk_drew ?_ | refine blk_alloc ?_ _)); exact BK367.out⟩, ⟨by repeat (first | (with_reducible first | exact HB.out | apply below_alloc | apply pw_below_drewN | apply below_drew1 | refine below_set ?_ GE367.out) | exact HB.out)⟩⟩
                    · rw [if_neg c13] at H
                      have c13b0 : decide (((rd_T32 l2 x20_2).f2) < 1) = false := decide_eq_false c13
                      clear c13
                      (first | rw [c13b0] | (simp only [i64_w, i32_w]; rw [c13b0]) | skip)
                      by_cases c15 : ((rd_T32 l2 x20_2).f0) < x8_2
                      · rw [if_pos c15] at H
                        have c15b0 : decide (((rd_T32 l2 x20_2).f0) < x8_2) = true := decide_eq_true c15
                        clear c15
                        have H' := Aside0.mk H
                        clear H
                        have hcz16_0 : w11.cell? ⟨gb367, 0, none⟩ = some (.int .i64 0) := (blk_cell BK367.out 0).trans rfl
                        have hcz16_1 : w11.cell? ⟨gb367, 1, none⟩ = some (.int .i64 0) := (blk_cell BK367.out 1).trans rfl
                        have hcz16_2 : w11.cell? ⟨gb367, 2, none⟩ = some (.int .i64 0) := (blk_cell BK367.out 2).trans rfl
                        have hfz16_0 := blk_frozen BK367.out 0
                        have hfz16_1 := blk_frozen BK367.out 1
                        have hfz16_2 := blk_frozen BK367.out 2
                        go_wp2
                        go_meet
                        case rel => exact ⟨_, (true), (by first | rfl | (simp; done) | (simp [*]; done)), H', ⟨by have := HJ3.out; have := HK2.out; first | omega | exact Nat.le_refl _⟩, ⟨by (with_reducible repeat (first | apply Kd.R_alloc | apply Kd.R_drewN | apply Kd.R_drew)); exact Kd.R_mono (Kd.R_far (p := ⟨gb367, 2, none⟩) (Kd.R_far (p := ⟨gb367, 1, none⟩) (Kd.R_far (p := ⟨gb367, 0, none⟩) (Kd.R_types HO_7.out BK367.out (by decide)) (fun _ hk => hk.2) (.int .i64 ((rd_T32 l2 x20_2).f0))) (fun _ hk => hk.2) (.int .i64 ((rd_T32 l2 x20_2).f1))) (fun _ hk => hk.2) (.int .i64 ((rd_T32 l2 x20_2).f2))) (fun _ hk => trivial)⟩, ⟨by (with_reducible repeat (first | refine blk_drewN ?_ _ | refine blk_drew ?_ | refine blk_alloc ?_ _)); refine blk_put (cs := #[.int .i64 ((rd_T32 l2 x20_2).f0), .int .i64 ((rd_T32 l2 x20_2).f1), .int .i64 0]) ?_ 2 _ rfl; (with_reducible repeat (first | refine blk_drewN ?_ _ | refine blk_drew ?_ | refine blk_alloc ?_ _)); refine blk_put (cs := #[.int .i64 ((rd_T32 l2 x20_2).f0), .int .i64 0, .int .i64 0]) ?_ 1 _ rfl; (with_reducible repeat (first | refine blk_drewN ?_ _ | refine blk_drew ?_ | refine blk_alloc ?_ _)); refine blk_put (cs := #[.int .i64 0, .int .i64 0, .int .i64 0]) ?_ 0 _ rfl; (with_reducible repeat (first | refine blk_drewN ?_ _ | refine blk_drew ?_ | refine blk_alloc ?_ _)); exact BK367.out⟩, ⟨by repeat (first | (with_reducible first | exact HB.out | apply below_alloc | apply pw_below_drewN | apply below_drew1 | refine below_set ?_ GE367.out) | exact HB.out)⟩⟩
                      · rw [if_neg c15] at H
                        have c15b0 : decide (((rd_T32 l2 x20_2).f0) < x8_2) = false := decide_eq_false c15
                        clear c15
                        by_cases c17 : ((rd_T32 l2 x20_2).f1) < x9_2
                        · rw [if_pos c17] at H
                          have c17b0 : decide (((rd_T32 l2 x20_2).f1) < x9_2) = true := decide_eq_true c17
                          clear c17
                          have H' := Aside0.mk H
                          clear H
                          have hcz18_0 : w11.cell? ⟨gb367, 0, none⟩ = some (.int .i64 0) := (blk_cell BK367.out 0).trans rfl
                          have hcz18_1 : w11.cell? ⟨gb367, 1, none⟩ = some (.int .i64 0) := (blk_cell BK367.out 1).trans rfl
                          have hcz18_2 : w11.cell? ⟨gb367, 2, none⟩ = some (.int .i64 0) := (blk_cell BK367.out 2).trans rfl
                          have hfz18_0 := blk_frozen BK367.out 0
                          have hfz18_1 := blk_frozen BK367.out 1
                          have hfz18_2 := blk_frozen BK367.out 2
                          go_wp2
                          go_meet
                          case rel => exact ⟨_, (true), (by first | rfl | (simp; done) | (simp [*]; done)), H', ⟨by have := HJ3.out; have := HK2.out; first | omega | exact Nat.le_refl _⟩, ⟨by (with_reducible repeat (first | apply Kd.R_alloc | apply Kd.R_drewN | apply Kd.R_drew)); exact Kd.R_mono (Kd.R_far (p := ⟨gb367, 2, none⟩) (Kd.R_far (p := ⟨gb367, 1, none⟩) (Kd.R_far (p := ⟨gb367, 0, none⟩) (Kd.R_types HO_7.out BK367.out (by decide)) (fun _ hk => hk.2) (.int .i64 ((rd_T32 l2 x20_2).f0))) (fun _ hk => hk.2) (.int .i64 ((rd_T32 l2 x20_2).f1))) (fun _ hk => hk.2) (.int .i64 ((rd_T32 l2 x20_2).f2))) (fun _ hk => trivial)⟩, ⟨by (with_reducible repeat (first | refine blk_drewN ?_ _ | refine blk_drew ?_ | refine blk_alloc ?_ _)); refine blk_put (cs := #[.int .i64 ((rd_T32 l2 x20_2).f0), .int .i64 ((rd_T32 l2 x20_2).f1), .int .i64 0]) ?_ 2 _ rfl; (with_reducible repeat (first | refine blk_drewN ?_ _ | refine blk_drew ?_ | refine blk_alloc ?_ _)); refine blk_put (cs := #[.int .i64 ((rd_T32 l2 x20_2).f0), .int .i64 0, .int .i64 0]) ?_ 1 _ rfl; (with_reducible repeat (first | refine blk_drewN ?_ _ | refine blk_drew ?_ | refine blk_alloc ?_ _)); refine blk_put (cs := #[.int .i64 0, .int .i64 0, .int .i64 0]) ?_ 0 _ rfl; (with_reducible repeat (first | refine blk_drewN ?_ _ | refine blk_drew ?_ | refine blk_alloc ?_ _)); exact BK367.out⟩, ⟨by repeat (first | (with_reducible first | exact HB.out | apply below_alloc | apply pw_below_drewN | apply below_drew1 | refine below_set ?_ GE367.out) | exact HB.out)⟩⟩
                        · rw [if_neg c17] at H
                          have c17b0 : decide (((rd_T32 l2 x20_2).f1) < x9_2) = false := decide_eq_false c17
                          clear c17
                          by_cases c19 : ((rd_T32 l2 x20_2).f0) > a0
                          · rw [if_pos c19] at H
                            have c19b0 : decide (a0 < ((rd_T32 l2 x20_2).f0)) = true := decide_eq_true c19
                            clear c19
                            have H' := Aside0.mk H
                            clear H
                            have hcz20_0 : w11.cell? ⟨gb367, 0, none⟩ = some (.int .i64 0) := (blk_cell BK367.out 0).trans rfl
                            have hcz20_1 : w11.cell? ⟨gb367, 1, none⟩ = some (.int .i64 0) := (blk_cell BK367.out 1).trans rfl
                            have hcz20_2 : w11.cell? ⟨gb367, 2, none⟩ = some (.int .i64 0) := (blk_cell BK367.out 2).trans rfl
                            have hfz20_0 := blk_frozen BK367.out 0
                            have hfz20_1 := blk_frozen BK367.out 1
                            have hfz20_2 := blk_frozen BK367.out 2
                            go_wp2
                            go_meet
                            case rel => exact ⟨_, (true), (by first | rfl | (simp; done) | (simp [*]; done)), H', ⟨by have := HJ3.out; have := HK2.out; first | omega | exact Nat.le_refl _⟩, ⟨by (with_reducible repeat (first | apply Kd.R_alloc | apply Kd.R_drewN | apply Kd.R_drew)); exact Kd.R_mono (Kd.R_far (p := ⟨gb367, 2, none⟩) (Kd.R_far (p := ⟨gb367, 1, none⟩) (Kd.R_far (p := ⟨gb367, 0, none⟩) (Kd.R_types HO_7.out BK367.out (by decide)) (fun _ hk => hk.2) (.int .i64 ((rd_T32 l2 x20_2).f0))) (fun _ hk => hk.2) (.int .i64 ((rd_T32 l2 x20_2).f1))) (fun _ hk => hk.2) (.int .i64 ((rd_T32 l2 x20_2).f2))) (fun _ hk => trivial)⟩, ⟨by (with_reducible repeat (first | refine blk_drewN ?_ _ | refine blk_drew ?_ | refine blk_alloc ?_ _)); refine blk_put (cs := #[.int .i64 ((rd_T32 l2 x20_2).f0), .int .i64 ((rd_T32 l2 x20_2).f1), .int .i64 0]) ?_ 2 _ rfl; (with_reducible repeat (first | refine blk_drewN ?_ _ | refine blk_drew ?_ | refine blk_alloc ?_ _)); refine blk_put (cs := #[.int .i64 ((rd_T32 l2 x20_2).f0), .int .i64 0, .int .i64 0]) ?_ 1 _ rfl; (with_reducible repeat (first | refine blk_drewN ?_ _ | refine blk_drew ?_ | refine blk_alloc ?_ _)); refine blk_put (cs := #[.int .i64 0, .int .i64 0, .int .i64 0]) ?_ 0 _ rfl; (with_reducible repeat (first | refine blk_drewN ?_ _ | refine blk_drew ?_ | refine blk_alloc ?_ _)); exact BK367.out⟩, ⟨by repeat (first | (with_reducible first | exact HB.out | apply below_alloc | apply pw_below_drewN | apply below_drew1 | refine below_set ?_ GE367.out) | exact HB.out)⟩⟩
                          · rw [if_neg c19] at H
                            have c19b0 : decide (a0 < ((rd_T32 l2 x20_2).f0)) = false := decide_eq_false c19
                            clear c19
                            by_cases c21 : ((rd_T32 l2 x20_2).f1) > a1
                            · rw [if_pos c21] at H
                              have c21b0 : decide (a1 < ((rd_T32 l2 x20_2).f1)) = true := decide_eq_true c21
                              clear c21
                              have H' := Aside0.mk H
                              clear H
                              have hcz22_0 : w11.cell? ⟨gb367, 0, none⟩ = some (.int .i64 0) := (blk_cell BK367.out 0).trans rfl
                              have hcz22_1 : w11.cell? ⟨gb367, 1, none⟩ = some (.int .i64 0) := (blk_cell BK367.out 1).trans rfl
                              have hcz22_2 : w11.cell? ⟨gb367, 2, none⟩ = some (.int .i64 0) := (blk_cell BK367.out 2).trans rfl
                              have hfz22_0 := blk_frozen BK367.out 0
                              have hfz22_1 := blk_frozen BK367.out 1
                              have hfz22_2 := blk_frozen BK367.out 2
                              go_wp2
                              go_meet
                              case rel => exact ⟨_, (true), (by first | rfl | (simp; done) | (simp [*]; done)), H', ⟨by have := HJ3.out; have := HK2.out; first | omega | exact Nat.le_refl _⟩, ⟨by (with_reducible repeat (first | apply Kd.R_alloc | apply Kd.R_drewN | apply Kd.R_drew)); exact Kd.R_mono (Kd.R_far (p := ⟨gb367, 2, none⟩) (Kd.R_far (p := ⟨gb367, 1, none⟩) (Kd.R_far (p := ⟨gb367, 0, none⟩) (Kd.R_types HO_7.out BK367.out (by decide)) (fun _ hk => hk.2) (.int .i64 ((rd_T32 l2 x20_2).f0))) (fun _ hk => hk.2) (.int .i64 ((rd_T32 l2 x20_2).f1))) (fun _ hk => hk.2) (.int .i64 ((rd_T32 l2 x20_2).f2))) (fun _ hk => trivial)⟩, ⟨by (with_reducible repeat (first | refine blk_drewN ?_ _ | refine blk_drew ?_ | refine blk_alloc ?_ _)); refine blk_put (cs := #[.int .i64 ((rd_T32 l2 x20_2).f0), .int .i64 ((rd_T32 l2 x20_2).f1), .int .i64 0]) ?_ 2 _ rfl; (with_reducible repeat (first | refine blk_drewN ?_ _ | refine blk_drew ?_ | refine blk_alloc ?_ _)); refine blk_put (cs := #[.int .i64 ((rd_T32 l2 x20_2).f0), .int .i64 0, .int .i64 0]) ?_ 1 _ rfl; (with_reducible repeat (first | refine blk_drewN ?_ _ | refine blk_drew ?_ | refine blk_alloc ?_ _)); refine blk_put (cs := #[.int .i64 0, .int .i64 0, .int .i64 0]) ?_ 0 _ rfl; (with_reducible repeat (first | refine blk_drewN ?_ _ | refine blk_drew ?_ | refine blk_alloc ?_ _)); exact BK367.out⟩, ⟨by repeat (first | (with_reducible first | exact HB.out | apply below_alloc | apply pw_below_drewN | apply below_drew1 | refine below_set ?_ GE367.out) | exact HB.out)⟩⟩
                            · rw [if_neg c21] at H
                              have c21b0 : decide (a1 < ((rd_T32 l2 x20_2).f1)) = false := decide_eq_false c21
                              clear c21
                              by_cases c23 : ((rd_T32 l2 x20_2).f2) > (wrap64 (a0 - ((rd_T32 l2 x20_2).f0)))
                              · rw [if_pos c23] at H
                                have c23b0 : decide ((wrap64 (a0 - ((rd_T32 l2 x20_2).f0))) < ((rd_T32 l2 x20_2).f2)) = true := decide_eq_true c23
                                clear c23
                                have H' := Aside0.mk H
                                clear H
                                have hcz24_0 : w11.cell? ⟨gb367, 0, none⟩ = some (.int .i64 0) := (blk_cell BK367.out 0).trans rfl
                                have hcz24_1 : w11.cell? ⟨gb367, 1, none⟩ = some (.int .i64 0) := (blk_cell BK367.out 1).trans rfl
                                have hcz24_2 : w11.cell? ⟨gb367, 2, none⟩ = some (.int .i64 0) := (blk_cell BK367.out 2).trans rfl
                                have hfz24_0 := blk_frozen BK367.out 0
                                have hfz24_1 := blk_frozen BK367.out 1
                                have hfz24_2 := blk_frozen BK367.out 2
                                go_wp2
                                go_meet
                                case rel => exact ⟨_, (true), (by first | rfl | (simp; done) | (simp [*]; done)), H', ⟨by have := HJ3.out; have := HK2.out; first | omega | exact Nat.le_refl _⟩, ⟨by (with_reducible repeat (first | apply Kd.R_alloc | apply Kd.R_drewN | apply Kd.R_drew)); exact Kd.R_mono (Kd.R_far (p := ⟨gb367, 2, none⟩) (Kd.R_far (p := ⟨gb367, 1, none⟩) (Kd.R_far (p := ⟨gb367, 0, none⟩) (Kd.R_types HO_7.out BK367.out (by decide)) (fun _ hk => hk.2) (.int .i64 ((rd_T32 l2 x20_2).f0))) (fun _ hk => hk.2) (.int .i64 ((rd_T32 l2 x20_2).f1))) (fun _ hk => hk.2) (.int .i64 ((rd_T32 l2 x20_2).f2))) (fun _ hk => trivial)⟩, ⟨by (with_reducible repeat (first | refine blk_drewN ?_ _ | refine blk_drew ?_ | refine blk_alloc ?_ _)); refine blk_put (cs := #[.int .i64 ((rd_T32 l2 x20_2).f0), .int .i64 ((rd_T32 l2 x20_2).f1), .int .i64 0]) ?_ 2 _ rfl; (with_reducible repeat (first | refine blk_drewN ?_ _ | refine blk_drew ?_ | refine blk_alloc ?_ _)); refine blk_put (cs := #[.int .i64 ((rd_T32 l2 x20_2).f0), .int .i64 0, .int .i64 0]) ?_ 1 _ rfl; (with_reducible repeat (first | refine blk_drewN ?_ _ | refine blk_drew ?_ | refine blk_alloc ?_ _)); refine blk_put (cs := #[.int .i64 0, .int .i64 0, .int .i64 0]) ?_ 0 _ rfl; (with_reducible repeat (first | refine blk_drewN ?_ _ | refine blk_drew ?_ | refine blk_alloc ?_ _)); exact BK367.out⟩, ⟨by repeat (first | (with_reducible first | exact HB.out | apply below_alloc | apply pw_below_drewN | apply below_drew1 | refine below_set ?_ GE367.out) | exact HB.out)⟩⟩
                              · rw [if_neg c23] at H
                                have c23b0 : decide ((wrap64 (a0 - ((rd_T32 l2 x20_2).f0))) < ((rd_T32 l2 x20_2).f2)) = false := decide_eq_false c23
                                clear c23
                                have H' := Aside0.mk H
                                clear H
                                have hcz25_0 : w11.cell? ⟨gb367, 0, none⟩ = some (.int .i64 0) := (blk_cell BK367.out 0).trans rfl
                                have hcz25_1 : w11.cell? ⟨gb367, 1, none⟩ = some (.int .i64 0) := (blk_cell BK367.out 1).trans rfl
                                have hcz25_2 : w11.cell? ⟨gb367, 2, none⟩ = some (.int .i64 0) := (blk_cell BK367.out 2).trans rfl
                                have hfz25_0 := blk_frozen BK367.out 0
                                have hfz25_1 := blk_frozen BK367.out 1
                                have hfz25_2 := blk_frozen BK367.out 2
                                go_wp2
                                go_meet
                                case rel => exact ⟨_, (decide (((rd_T32 l2 x20_2).f2) > (wrap64 (a1 - ((rd_T32 l2 x20_2).f1))))), (by first | rfl | (simp; done) | (simp [*]; done)), H', ⟨by have := HJ3.out; have := HK2.out; first | omega | exact Nat.le_refl _⟩, ⟨by (with_reducible repeat (first | apply Kd.R_alloc | apply Kd.R_drewN | apply Kd.R_drew)); exact Kd.R_mono (Kd.R_far (p := ⟨gb367, 2, none⟩) (Kd.R_far (p := ⟨gb367, 1, none⟩) (Kd.R_far (p := ⟨gb367, 0, none⟩) (Kd.R_types HO_7.out BK367.out (by decide)) (fun _ hk => hk.2) (.int .i64 ((rd_T32 l2 x20_2).f0))) (fun _ hk => hk.2) (.int .i64 ((rd_T32 l2 x20_2).f1))) (fun _ hk => hk.2) (.int .i64 ((rd_T32 l2 x20_2).f2))) (fun _ hk => trivial)⟩, ⟨by (with_reducible repeat (first | refine blk_drewN ?_ _ | refine blk_drew ?_ | refine blk_alloc ?_ _)); refine blk_put (cs := #[.int .i64 ((rd_T32 l2 x20_2).f0), .int .i64 ((rd_T32 l2 x20_2).f1), .int .i64 0]) ?_ 2 _ rfl; (with_reducible repeat (first | refine blk_drewN ?_ _ | refine blk_drew ?_ | refine blk_alloc ?_ _)); refine blk_put (cs := #[.int .i64 ((rd_T32 l2 x20_2).f0), .int .i64 0, .int .i64 0]) ?_ 1 _ rfl; (with_reducible repeat (first | refine blk_drewN ?_ _ | refine blk_drew ?_ | refine blk_alloc ?_ _)); refine blk_put (cs := #[.int .i64 0, .int .i64 0, .int .i64 0]) ?_ 0 _ rfl; (with_reducible repeat (first | refine blk_drewN ?_ _ | refine blk_drew ?_ | refine blk_alloc ?_ _)); exact BK367.out⟩, ⟨by repeat (first | (with_reducible first | exact HB.out | apply below_alloc | apply pw_below_drewN | apply below_drew1 | refine below_set ?_ GE367.out) | exact HB.out)⟩⟩
                  case rest =>
                    clear HC10
                    try clear c1
                    try clear c2
                    try clear p2
                    try clear p3
                    try clear q3
                    try clear hx3
                    try clear c5
                    try clear c5b0
                    try clear c6
                    try clear p6
                    try clear c7
                    try clear c7b0
                    try clear c8
                    try clear c8b0
                    try clear c9
                    try clear c9b0
                    try clear c13
                    try clear c13b0
                    try clear c15
                    try clear c15b0
                    try clear c17
                    try clear c17b0
                    try clear c19
                    try clear c19b0
                    try clear c21
                    try clear c21b0
                    try clear c23
                    try clear c23b0
                    try clear hcz12_0
                    try clear hcz12_1
                    try clear hcz12_2
                    try clear hcz14_0
                    try clear hcz14_1
                    try clear hcz14_2
                    try clear hcz16_0
                    try clear hcz16_1
                    try clear hcz16_2
                    try clear hcz18_0
                    try clear hcz18_1
                    try clear hcz18_2
                    try clear hcz20_0
                    try clear hcz20_1
                    try clear hcz20_2
                    try clear hcz22_0
                    try clear hcz22_1
                    try clear hcz22_2
                    try clear hcz24_0
                    try clear hcz24_1
                    try clear hcz24_2
                    try clear hcz25_0
                    try clear hcz25_1
                    try clear hcz25_2
                    try clear hfz12_0
                    try clear hfz12_1
                    try clear hfz12_2
                    try clear hfz14_0
                    try clear hfz14_1
                    try clear hfz14_2
                    try clear hfz16_0
                    try clear hfz16_1
                    try clear hfz16_2
                    try clear hfz18_0
                    try clear hfz18_1
                    try clear hfz18_2
                    try clear hfz20_0
                    try clear hfz20_1
                    try clear hfz20_2
                    try clear hfz22_0
                    try clear hfz22_1
                    try clear hfz22_2
                    try clear hfz24_0
                    try clear hfz24_1
                    try clear hfz24_2
                    try clear hfz25_0
                    try clear hfz25_1
                    try clear hfz25_2
                    try clear hx366_0
                    try clear hx366_1
                    try clear hx366_2
                    try clear p2
                    try clear p366
                    try clear q366
                    obtain ⟨kq, x71_9, rfl, HA, HJ9, HO_7, BK367, HB⟩ := hcut
                    cases kq with
                    | zero => exact absurd HA.out (by simp [graftageref08_Of.j2])
                    | succ kj9 =>
                      have H := HA.out
                      clear HA
                      simp only [graftageref08_Of.j2] at H
                      by_cases c26 : x71_9 = true
                      · subst c26
                        have H1 : (some ([] : List (S44))) = some r := by rw [if_pos rfl] at H; exact H
                        clear H
                        have H := H1
                        clear H1
                        obtain rfl := Option.some.inj H
                        go_wp2
                        go_ret
                        exact ⟨_, by first | rfl | (simp [errW_none, errW_some] <;> rfl) | (simp [*, errW_none, errW_some] <;> rfl), by first | exact Kd.R_nil _ _ _ _ _ | exact Kd.N_nil _ _ _ _ _ | exact Kd.V_nil _ _ _ _ _ | exact Kd.Q_nil _ _ _ _ _ | exact Kd.S_nil _ _ _ _ _, by repeat (first | (with_reducible first | exact HB.out | apply below_alloc | apply pw_below_drewN | apply below_drew1 | refine below_set ?_ GE367.out) | exact HB.out)⟩
                      · replace c26 := Bool.eq_false_iff.mpr c26
                        subst c26
                        have H1 : (if ((rd_T32 l2 x20_2).f0) > x8_2 then (if x7_2.length < 4398046511104 then (graftageref08_Of.l0 kj9 a0 a1 l2 (x7_2 ++ [(⟨x8_2, wrap64 (((rd_T32 l2 x20_2).f0) - x8_2), x9_2, wrap64 (((rd_T32 l2 x20_2).f1) - x9_2)⟩ : S44)]) (wrap64 (((rd_T32 l2 x20_2).f0) + ((rd_T32 l2 x20_2).f2))) (wrap64 (((rd_T32 l2 x20_2).f1) + ((rd_T32 l2 x20_2).f2))) (l2.length : Int) (wrap64 (x20_2 + 1))) else (none)) else (if ((rd_T32 l2 x20_2).f1) > x9_2 then (if x7_2.length < 4398046511104 then (graftageref08_Of.l0 kj9 a0 a1 l2 (x7_2 ++ [(⟨x8_2, wrap64 (((rd_T32 l2 x20_2).f0) - x8_2), x9_2, wrap64 (((rd_T32 l2 x20_2).f1) - x9_2)⟩ : S44)]) (wrap64 (((rd_T32 l2 x20_2).f0) + ((rd_T32 l2 x20_2).f2))) (wrap64 (((rd_T32 l2 x20_2).f1) + ((rd_T32 l2 x20_2).f2))) (l2.length : Int) (wrap64 (x20_2 + 1))) else (none)) else (graftageref08_Of.l0 kj9 a0 a1 l2 x7_2 (wrap64 (((rd_T32 l2 x20_2).f0) + ((rd_T32 l2 x20_2).f2))) (wrap64 (((rd_T32 l2 x20_2).f1) + ((rd_T32 l2 x20_2).f2))) (l2.length : Int) (wrap64 (x20_2 + 1))))) = some r := by rw [if_neg (show ¬ (false = true) by decide)] at H; exact H
                        clear H
                        have H := H1
                        clear H1
                        by_cases c27 : ((rd_T32 l2 x20_2).f0) > x8_2
                        · rw [if_pos c27] at H
                          have c27b0 : decide (x8_2 < ((rd_T32 l2 x20_2).f0)) = true := decide_eq_true c27
                          clear c27
                          by_cases c28 : x7_2.length < 4398046511104
                          · rw [if_pos c28] at H
                            have LMc28 := Aside0.mk c28
                            clear c28
                            obtain ⟨y368, hy368⟩ : ∃ y_ : List (S44), y_ = (x7_2 ++ [(⟨x8_2, wrap64 (((rd_T32 l2 x20_2).f0) - x8_2), x9_2, wrap64 (((rd_T32 l2 x20_2).f1) - x9_2)⟩ : S44)]) := ⟨_, rfl⟩
                            replace H : (graftageref08_Of.l0 kj9 a0 a1 l2 y368 (wrap64 (((rd_T32 l2 x20_2).f0) + ((rd_T32 l2 x20_2).f2))) (wrap64 (((rd_T32 l2 x20_2).f1) + ((rd_T32 l2 x20_2).f2))) (l2.length : Int) (wrap64 (x20_2 + 1))) = some r := by first | (rw [hy368]; with_reducible exact H) | (have H2_ := (Option.bind_some _ _).symm.trans H; rw [hy368]; with_reducible exact H2_) | (have H2_ := (Option.bind_some _ _).symm.trans H; with_reducible exact H2_) | with_reducible exact H | (rw [hy368]; exact H) | exact H
                            have Ny368 := Aside0.mk hy368
                            clear hy368
                            have H' := Aside0.mk H
                            clear H
                            have hcz29_0 : wc.cell? ⟨gb367, 0, none⟩ = some (.int .i64 ((rd_T32 l2 x20_2).f0)) := (blk_cell BK367.out 0).trans rfl
                            have hcz29_1 : wc.cell? ⟨gb367, 1, none⟩ = some (.int .i64 ((rd_T32 l2 x20_2).f1)) := (blk_cell BK367.out 1).trans rfl
                            have hcz29_2 : wc.cell? ⟨gb367, 2, none⟩ = some (.int .i64 ((rd_T32 l2 x20_2).f2)) := (blk_cell BK367.out 2).trans rfl
                            have hfz29_0 := blk_frozen BK367.out 0
                            have hfz29_1 := blk_frozen BK367.out 1
                            have hfz29_2 := blk_frozen BK367.out 2
                            go_wp2_with (first | ((with_reducible refine gate_builtin (b := .append) (xs := #[.tmp 82, .tmp 94]) rfl ?_); at_builtin; refine Kd.R_append k44 (w0 := w) w.heap.size rfl (.tmp 82) (.tmp 94) 26 44 (.agg #[(.int .i64 0), (.int .i64 0), (.int .i64 0), (.int .i64 0)]) 32 rfl Try.underlying26 info44 rfl (by decide) (by omega) u7 x7_2 (⟨x8_2, wrap64 (((rd_T32 l2 x20_2).f0) - x8_2), x9_2, wrap64 (((rd_T32 l2 x20_2).f1) - x9_2)⟩ : S44) [.int .i64 x8_2, .int .i64 (wrap64 (((rd_T32 l2 x20_2).f0) - x8_2)), .int .i64 x9_2, .int .i64 (wrap64 (((rd_T32 l2 x20_2).f1) - x9_2))] (fun _ => True) (fun _ => False) rfl rfl ?aP (fun _ hk => hk.elim) ?aF ?aO ?aB ?aS ?aL ?_; (case aP => exact k44_mkM _ _ _ (⟨x8_2, wrap64 (((rd_T32 l2 x20_2).f0) - x8_2), x9_2, wrap64 (((rd_T32 l2 x20_2).f1) - x9_2)⟩ : S44)); (case aB => exact (by repeat (first | (with_reducible first | exact HB.out | apply below_alloc | apply pw_below_drewN | apply below_drew1 | refine below_set ?_ GE367.out) | exact HB.out))); (case aF => exact (fun _ _ => trivial)); (case aO => exact (by (with_reducible repeat (first | apply Kd.R_alloc | apply Kd.R_drewN | apply Kd.R_drew)); exact HO_7.out)); (case aS => exact (below_size (by repeat (first | (with_reducible first | exact HB.out | apply below_alloc | apply pw_below_drewN | apply below_drew1 | refine below_set ?_ GE367.out) | exact HB.out)))); (case aL => have := LMc28.out; omega); intro v369 w30 ho hb hg hat; rw [← Ny368.out] at ho; have n0_ := Aside0.mk (blk_grown (g := gb367) (o := .cells #[.int .i64 ((rd_T32 l2 x20_2).f0), .int .i64 ((rd_T32 l2 x20_2).f1), .int .i64 ((rd_T32 l2 x20_2).f2)] 32 (0, 0)) (by (with_reducible repeat (first | refine blk_drewN ?_ _ | refine blk_drew ?_ | refine blk_alloc ?_ _)); exact BK367.out) hg (Kd.R_ne HO_7.out BK367.out (by decide))); have n1_ := Aside0.mk (hb); have n2_ := Aside0.mk (ho); clear BK367; clear HB; clear HO_7; have BK367 := n0_; have HB := n1_; have HO370 := n2_; clear n0_ n1_ n2_; clear ho hb hg hat; have hcz31_0 : w30.cell? ⟨gb367, 0, none⟩ = some (.int .i64 ((rd_T32 l2 x20_2).f0)) := (blk_cell BK367.out 0).trans rfl; have hcz31_1 : w30.cell? ⟨gb367, 1, none⟩ = some (.int .i64 ((rd_T32 l2 x20_2).f1)) := (blk_cell BK367.out 1).trans rfl; have hcz31_2 : w30.cell? ⟨gb367, 2, none⟩ = some (.int .i64 ((rd_T32 l2 x20_2).f2)) := (blk_cell BK367.out 2).trans rfl; have hfz31_0 := blk_frozen BK367.out 0; have hfz31_1 := blk_frozen BK367.out 1; have hfz31_2 := blk_frozen BK367.out 2))
                            go_roundg kj9
                            case measure => have := HJ3.out; have := HK2.out; have := HJ9.out; omega
                            case rel => exact ⟨(y368), (wrap64 (((rd_T32 l2 x20_2).f0) + ((rd_T32 l2 x20_2).f2))), (wrap64 (((rd_T32 l2 x20_2).f1) + ((rd_T32 l2 x20_2).f2))), (wrap64 (x20_2 + 1)), (by first | rfl | (simp; done) | (simp [*]; done)), (by first | rfl | (simp; done) | (simp [*]; done)), (by first | rfl | (simp; done) | (simp [*]; done)), H', ⟨by have := HJ3.out; have := HK2.out; have := HJ9.out; omega⟩, ⟨by (with_reducible repeat (first | apply Kd.R_alloc | apply Kd.R_drewN | apply Kd.R_drew)); exact HO370.out⟩, ⟨by repeat (first | (with_reducible first | exact HB.out | apply below_alloc | apply pw_below_drewN | apply below_drew1 | refine below_set ?_ GE367.out) | exact HB.out)⟩⟩
                          · rw [if_neg c28] at H
                            exact absurd H (by simp)
                        · rw [if_neg c27] at H
                          have c27b0 : decide (x8_2 < ((rd_T32 l2 x20_2).f0)) = false := decide_eq_false c27
                          clear c27
                          by_cases c32 : ((rd_T32 l2 x20_2).f1) > x9_2
                          · rw [if_pos c32] at H
                            have c32b0 : decide (x9_2 < ((rd_T32 l2 x20_2).f1)) = true := decide_eq_true c32
                            clear c32
                            by_cases c33 : x7_2.length < 4398046511104
                            · rw [if_pos c33] at H
                              have LMc33 := Aside0.mk c33
                              clear c33
                              obtain ⟨y371, hy371⟩ : ∃ y_ : List (S44), y_ = (x7_2 ++ [(⟨x8_2, wrap64 (((rd_T32 l2 x20_2).f0) - x8_2), x9_2, wrap64 (((rd_T32 l2 x20_2).f1) - x9_2)⟩ : S44)]) := ⟨_, rfl⟩
                              replace H : (graftageref08_Of.l0 kj9 a0 a1 l2 y371 (wrap64 (((rd_T32 l2 x20_2).f0) + ((rd_T32 l2 x20_2).f2))) (wrap64 (((rd_T32 l2 x20_2).f1) + ((rd_T32 l2 x20_2).f2))) (l2.length : Int) (wrap64 (x20_2 + 1))) = some r := by first | (rw [hy371]; with_reducible exact H) | (have H2_ := (Option.bind_some _ _).symm.trans H; rw [hy371]; with_reducible exact H2_) | (have H2_ := (Option.bind_some _ _).symm.trans H; with_reducible exact H2_) | with_reducible exact H | (rw [hy371]; exact H) | exact H
                              have Ny371 := Aside0.mk hy371
                              clear hy371
                              have H' := Aside0.mk H
                              clear H
                              have hcz34_0 : wc.cell? ⟨gb367, 0, none⟩ = some (.int .i64 ((rd_T32 l2 x20_2).f0)) := (blk_cell BK367.out 0).trans rfl
                              have hcz34_1 : wc.cell? ⟨gb367, 1, none⟩ = some (.int .i64 ((rd_T32 l2 x20_2).f1)) := (blk_cell BK367.out 1).trans rfl
                              have hcz34_2 : wc.cell? ⟨gb367, 2, none⟩ = some (.int .i64 ((rd_T32 l2 x20_2).f2)) := (blk_cell BK367.out 2).trans rfl
                              have hfz34_0 := blk_frozen BK367.out 0
                              have hfz34_1 := blk_frozen BK367.out 1
                              have hfz34_2 := blk_frozen BK367.out 2
                              go_wp2_with (first | ((with_reducible refine gate_builtin (b := .append) (xs := #[.tmp 82, .tmp 94]) rfl ?_); at_builtin; refine Kd.R_append k44 (w0 := w) w.heap.size rfl (.tmp 82) (.tmp 94) 26 44 (.agg #[(.int .i64 0), (.int .i64 0), (.int .i64 0), (.int .i64 0)]) 32 rfl Try.underlying26 info44 rfl (by decide) (by omega) u7 x7_2 (⟨x8_2, wrap64 (((rd_T32 l2 x20_2).f0) - x8_2), x9_2, wrap64 (((rd_T32 l2 x20_2).f1) - x9_2)⟩ : S44) [.int .i64 x8_2, .int .i64 (wrap64 (((rd_T32 l2 x20_2).f0) - x8_2)), .int .i64 x9_2, .int .i64 (wrap64 (((rd_T32 l2 x20_2).f1) - x9_2))] (fun _ => True) (fun _ => False) rfl rfl ?aP (fun _ hk => hk.elim) ?aF ?aO ?aB ?aS ?aL ?_; (case aP => exact k44_mkM _ _ _ (⟨x8_2, wrap64 (((rd_T32 l2 x20_2).f0) - x8_2), x9_2, wrap64 (((rd_T32 l2 x20_2).f1) - x9_2)⟩ : S44)); (case aB => exact (by repeat (first | (with_reducible first | exact HB.out | apply below_alloc | apply pw_below_drewN | apply below_drew1 | refine below_set ?_ GE367.out) | exact HB.out))); (case aF => exact (fun _ _ => trivial)); (case aO => exact (by (with_reducible repeat (first | apply Kd.R_alloc | apply Kd.R_drewN | apply Kd.R_drew)); exact HO_7.out)); (case aS => exact (below_size (by repeat (first | (with_reducible first | exact HB.out | apply below_alloc | apply pw_below_drewN | apply below_drew1 | refine below_set ?_ GE367.out) | exact HB.out)))); (case aL => have := LMc33.out; omega); intro v372 w35 ho hb hg hat; rw [← Ny371.out] at ho; have n0_ := Aside0.mk (blk_grown (g := gb367) (o := .cells #[.int .i64 ((rd_T32 l2 x20_2).f0), .int .i64 ((rd_T32 l2 x20_2).f1), .int .i64 ((rd_T32 l2 x20_2).f2)] 32 (0, 0)) (by (with_reducible repeat (first | refine blk_drewN ?_ _ | refine blk_drew ?_ | refine blk_alloc ?_ _)); exact BK367.out) hg (Kd.R_ne HO_7.out BK367.out (by decide))); have n1_ := Aside0.mk (hb); have n2_ := Aside0.mk (ho); clear BK367; clear HB; clear HO_7; have BK367 := n0_; have HB := n1_; have HO373 := n2_; clear n0_ n1_ n2_; clear ho hb hg hat; have hcz36_0 : w35.cell? ⟨gb367, 0, none⟩ = some (.int .i64 ((rd_T32 l2 x20_2).f0)) := (blk_cell BK367.out 0).trans rfl; have hcz36_1 : w35.cell? ⟨gb367, 1, none⟩ = some (.int .i64 ((rd_T32 l2 x20_2).f1)) := (blk_cell BK367.out 1).trans rfl; have hcz36_2 : w35.cell? ⟨gb367, 2, none⟩ = some (.int .i64 ((rd_T32 l2 x20_2).f2)) := (blk_cell BK367.out 2).trans rfl; have hfz36_0 := blk_frozen BK367.out 0; have hfz36_1 := blk_frozen BK367.out 1; have hfz36_2 := blk_frozen BK367.out 2))
                              go_roundg kj9
                              case measure => have := HJ3.out; have := HK2.out; have := HJ9.out; omega
                              case rel => exact ⟨(y371), (wrap64 (((rd_T32 l2 x20_2).f0) + ((rd_T32 l2 x20_2).f2))), (wrap64 (((rd_T32 l2 x20_2).f1) + ((rd_T32 l2 x20_2).f2))), (wrap64 (x20_2 + 1)), (by first | rfl | (simp; done) | (simp [*]; done)), (by first | rfl | (simp; done) | (simp [*]; done)), (by first | rfl | (simp; done) | (simp [*]; done)), H', ⟨by have := HJ3.out; have := HK2.out; have := HJ9.out; omega⟩, ⟨by (with_reducible repeat (first | apply Kd.R_alloc | apply Kd.R_drewN | apply Kd.R_drew)); exact HO373.out⟩, ⟨by repeat (first | (with_reducible first | exact HB.out | apply below_alloc | apply pw_below_drewN | apply below_drew1 | refine below_set ?_ GE367.out) | exact HB.out)⟩⟩
                            · rw [if_neg c33] at H
                              exact absurd H (by simp)
                          · rw [if_neg c32] at H
                            have c32b0 : decide (x9_2 < ((rd_T32 l2 x20_2).f1)) = false := decide_eq_false c32
                            clear c32
                            have H' := Aside0.mk H
                            clear H
                            have hcz37_0 : wc.cell? ⟨gb367, 0, none⟩ = some (.int .i64 ((rd_T32 l2 x20_2).f0)) := (blk_cell BK367.out 0).trans rfl
                            have hcz37_1 : wc.cell? ⟨gb367, 1, none⟩ = some (.int .i64 ((rd_T32 l2 x20_2).f1)) := (blk_cell BK367.out 1).trans rfl
                            have hcz37_2 : wc.cell? ⟨gb367, 2, none⟩ = some (.int .i64 ((rd_T32 l2 x20_2).f2)) := (blk_cell BK367.out 2).trans rfl
                            have hfz37_0 := blk_frozen BK367.out 0
                            have hfz37_1 := blk_frozen BK367.out 1
                            have hfz37_2 := blk_frozen BK367.out 2
                            go_wp2
                            go_roundg kj9
                            case measure => have := HJ3.out; have := HK2.out; have := HJ9.out; omega
                            case rel => exact ⟨(x7_2), (wrap64 (((rd_T32 l2 x20_2).f0) + ((rd_T32 l2 x20_2).f2))), (wrap64 (((rd_T32 l2 x20_2).f1) + ((rd_T32 l2 x20_2).f2))), (wrap64 (x20_2 + 1)), (by first | rfl | (simp; done) | (simp [*]; done)), (by first | rfl | (simp; done) | (simp [*]; done)), (by first | rfl | (simp; done) | (simp [*]; done)), H', ⟨by have := HJ3.out; have := HK2.out; have := HJ9.out; omega⟩, ⟨by (with_reducible repeat (first | apply Kd.R_alloc | apply Kd.R_drewN | apply Kd.R_drew)); exact HO_7.out⟩, ⟨by repeat (first | (with_reducible first | exact HB.out | apply below_alloc | apply pw_below_drewN | apply below_drew1 | refine below_set ?_ GE367.out) | exact HB.out)⟩⟩
                · rw [if_neg c9] at H
                  exact absurd H (by simp)
              · rw [if_neg c8] at H
                exact absurd H (by simp)
            · rw [if_neg c7] at H
              have c7b0 : decide (x20_2 < (l2.length : Int)) = false := decide_eq_false c7
              clear c7
              by_cases c38 : a0 > x8_2
              · rw [if_pos c38] at H
                have c38b0 : decide (x8_2 < a0) = true := decide_eq_true c38
                clear c38
                by_cases c39 : x7_2.length < 4398046511104
                · rw [if_pos c39] at H
                  have LMc39 := Aside0.mk c39
                  clear c39
                  obtain ⟨y360, hy360⟩ : ∃ y_ : List (S44), y_ = (x7_2 ++ [(⟨x8_2, wrap64 (a0 - x8_2), x9_2, wrap64 (a1 - x9_2)⟩ : S44)]) := ⟨_, rfl⟩
                  replace H : (some y360) = some r := by first | (rw [hy360]; with_reducible exact H) | (have H2_ := (Option.bind_some _ _).symm.trans H; rw [hy360]; with_reducible exact H2_) | (have H2_ := (Option.bind_some _ _).symm.trans H; with_reducible exact H2_) | with_reducible exact H | (rw [hy360]; exact H) | exact H
                  have Ny360 := Aside0.mk hy360
                  clear hy360
                  obtain rfl := Option.some.inj H
                  go_wp2_with (first | ((with_reducible refine gate_builtin (b := .append) (xs := #[.tmp 115, .tmp 125]) rfl ?_); at_builtin; refine Kd.R_append k44 (w0 := w) w.heap.size rfl (.tmp 115) (.tmp 125) 26 44 (.agg #[(.int .i64 0), (.int .i64 0), (.int .i64 0), (.int .i64 0)]) 32 rfl Try.underlying26 info44 rfl (by decide) (by omega) u7 x7_2 (⟨x8_2, wrap64 (a0 - x8_2), x9_2, wrap64 (a1 - x9_2)⟩ : S44) [.int .i64 x8_2, .int .i64 (wrap64 (a0 - x8_2)), .int .i64 x9_2, .int .i64 (wrap64 (a1 - x9_2))] (fun _ => True) (fun _ => False) rfl rfl ?aP (fun _ hk => hk.elim) ?aF ?aO ?aB ?aS ?aL ?_; (case aP => exact k44_mkM _ _ _ (⟨x8_2, wrap64 (a0 - x8_2), x9_2, wrap64 (a1 - x9_2)⟩ : S44)); (case aB => exact (by repeat (first | (with_reducible first | exact HB.out | apply below_alloc | apply pw_below_drewN | apply below_drew1) | exact HB.out))); (case aF => exact (fun _ _ => trivial)); (case aO => exact (by (with_reducible repeat (first | apply Kd.R_alloc | apply Kd.R_drewN | apply Kd.R_drew)); exact HO_7.out)); (case aS => exact (below_size (by repeat (first | (with_reducible first | exact HB.out | apply below_alloc | apply pw_below_drewN | apply below_drew1) | exact HB.out)))); (case aL => have := LMc39.out; omega); intro v361 w40 ho hb hg hat; rw [← Ny360.out] at ho; have n0_ := Aside0.mk (hb); have n1_ := Aside0.mk (ho); clear HB; clear HO_7; have HB := n0_; have HO362 := n1_; clear n0_ n1_; clear ho hb hg hat))
                  go_ret
                  exact ⟨_, by first | rfl | (simp [errW_none, errW_some] <;> rfl) | (simp [*, errW_none, errW_some] <;> rfl), by (with_reducible repeat (first | apply Kd.R_alloc | apply Kd.R_drewN | apply Kd.R_drew)); exact HO362.out, by repeat (first | (with_reducible first | exact HB.out | apply below_alloc | apply pw_below_drewN | apply below_drew1) | exact HB.out)⟩
                · rw [if_neg c39] at H
                  exact absurd H (by simp)
              · rw [if_neg c38] at H
                have c38b0 : decide (x8_2 < a0) = false := decide_eq_false c38
                clear c38
                by_cases c41 : a1 > x9_2
                · rw [if_pos c41] at H
                  have c41b0 : decide (x9_2 < a1) = true := decide_eq_true c41
                  clear c41
                  by_cases c42 : x7_2.length < 4398046511104
                  · rw [if_pos c42] at H
                    have LMc42 := Aside0.mk c42
                    clear c42
                    obtain ⟨y363, hy363⟩ : ∃ y_ : List (S44), y_ = (x7_2 ++ [(⟨x8_2, wrap64 (a0 - x8_2), x9_2, wrap64 (a1 - x9_2)⟩ : S44)]) := ⟨_, rfl⟩
                    replace H : (some y363) = some r := by first | (rw [hy363]; with_reducible exact H) | (have H2_ := (Option.bind_some _ _).symm.trans H; rw [hy363]; with_reducible exact H2_) | (have H2_ := (Option.bind_some _ _).symm.trans H; with_reducible exact H2_) | with_reducible exact H | (rw [hy363]; exact H) | exact H
                    have Ny363 := Aside0.mk hy363
                    clear hy363
                    obtain rfl := Option.some.inj H
                    go_wp2_with (first | ((with_reducible refine gate_builtin (b := .append) (xs := #[.tmp 115, .tmp 125]) rfl ?_); at_builtin; refine Kd.R_append k44 (w0 := w) w.heap.size rfl (.tmp 115) (.tmp 125) 26 44 (.agg #[(.int .i64 0), (.int .i64 0), (.int .i64 0), (.int .i64 0)]) 32 rfl Try.underlying26 info44 rfl (by decide) (by omega) u7 x7_2 (⟨x8_2, wrap64 (a0 - x8_2), x9_2, wrap64 (a1 - x9_2)⟩ : S44) [.int .i64 x8_2, .int .i64 (wrap64 (a0 - x8_2)), .int .i64 x9_2, .int .i64 (wrap64 (a1 - x9_2))] (fun _ => True) (fun _ => False) rfl rfl ?aP (fun _ hk => hk.elim) ?aF ?aO ?aB ?aS ?aL ?_; (case aP => exact k44_mkM _ _ _ (⟨x8_2, wrap64 (a0 - x8_2), x9_2, wrap64 (a1 - x9_2)⟩ : S44)); (case aB => exact (by repeat (first | (with_reducible first | exact HB.out | apply below_alloc | apply pw_below_drewN | apply below_drew1) | exact HB.out))); (case aF => exact (fun _ _ => trivial)); (case aO => exact (by (with_reducible repeat (first | apply Kd.R_alloc | apply Kd.R_drewN | apply Kd.R_drew)); exact HO_7.out)); (case aS => exact (below_size (by repeat (first | (with_reducible first | exact HB.out | apply below_alloc | apply pw_below_drewN | apply below_drew1) | exact HB.out)))); (case aL => have := LMc42.out; omega); intro v364 w43 ho hb hg hat; rw [← Ny363.out] at ho; have n0_ := Aside0.mk (hb); have n1_ := Aside0.mk (ho); clear HB; clear HO_7; have HB := n0_; have HO365 := n1_; clear n0_ n1_; clear ho hb hg hat))
                    go_ret
                    exact ⟨_, by first | rfl | (simp [errW_none, errW_some] <;> rfl) | (simp [*, errW_none, errW_some] <;> rfl), by (with_reducible repeat (first | apply Kd.R_alloc | apply Kd.R_drewN | apply Kd.R_drew)); exact HO365.out, by repeat (first | (with_reducible first | exact HB.out | apply below_alloc | apply pw_below_drewN | apply below_drew1) | exact HB.out)⟩
                  · rw [if_neg c42] at H
                    exact absurd H (by simp)
                · rw [if_neg c41] at H
                  have c41b0 : decide (x9_2 < a1) = false := decide_eq_false c41
                  clear c41
                  obtain rfl := Option.some.inj H
                  go_wp2
                  go_ret
                  exact ⟨_, by first | rfl | (simp [errW_none, errW_some] <;> rfl) | (simp [*, errW_none, errW_some] <;> rfl), by (with_reducible repeat (first | apply Kd.R_alloc | apply Kd.R_drewN | apply Kd.R_drew)); exact HO_7.out, by repeat (first | (with_reducible first | exact HB.out | apply below_alloc | apply pw_below_drewN | apply below_drew1) | exact HB.out)⟩

end Go.Proofs.Ytikepmdhnbnohaa.P
